import Derived.Laws.Bits64
import Derived.Handy
import Derived.Test.YtmdogmpcmkfjpaaGreatDoorBq11
import Derived.Test.YtmdogmpcmkfjpaaGreatDoorBq01
import Derived.Test.YtmdogmpcmkfjpaaGreatDoorBq10
set_option maxRecDepth 100000
set_option maxHeartbeats 64000000
/- Part. -/
namespace Go.Proofs.YtmdogmpcmkfjpaaGreatDoor.Dt
open Go.RowKit Go.Proofs.YtmdogmpcmkfjpaaGreatDoor.By
theorem textLexW (r:Nat) (s:ByteArray) (k:Nat) (w:World) (h:RD r s k w) (hs:s.size ≤ 1000000) (hk:k < s.size) :
 Calls Tryz.prog 114 #[pV r,.int .u8 4] w fun e w'=>e = .returned (outV (Zcm (s.data.toList.drop k)))∧RD r s (k + Zs3 (Zcm (s.data.toList.drop k))) w'∧w.grownBy w' (some r):=by
 obtain ⟨R,hR⟩:∃ R,R=Zb6 (s.data.toList.drop (k + 1)):=⟨_,rfl⟩
 have HONE:Hid (Zcm (s.data.toList.drop k)=textR (s.size - k) R):=Lh (by rw [Zr1,List.drop_drop,← hR,List.length_drop,Zx])
 have HR0:=Lh hR
 have HQ0:Hid (QS w r w.heap.size s k (nS) [] (w.alloc (.cells #[.int .u8 0,eS,.int .u64 0,iZ] 128))):=Lh (QS.new h _)
 have HRB:Hid (r < w.heap.size):=Lh h.lt
 have HS:=Lh hs
 have HK:=Lh hk
 have HW1:=Lh (Zly ((k:Int) + 1) kW kW)
 clear h hs hk hR
 go_enter Tryz.func114,Tryz.ntmps114
 go_upto_region 1 with fail
 generalize (w.alloc (.cells #[.int .u8 0,eS,.int .u64 0,iZ] 128))=w1 at *
 obtain ⟨b,hb⟩:∃ b,b=w.heap.size:=⟨_,rfl⟩
 rw [← hb] at HQ0 HRB ⊢
 have HBE:=Lh (Nat.le_of_eq hb.symm)
 have HNE:Hid (b ≠ r):=Lh (by have:=HRB.out;omega)
 clear hb
 have hw1:=HW1.out
 obtain ⟨⟨d0,d1,g1⟩,-,-,-,-⟩:=HQ0.out
 go_upto_region 3 with fail
 have HQ1:=Lh (HQ0.out.set HRB.out (k + 1) ((k:Int) + 1) kW)
 clear d0 d1 g1
 generalize w1.setCell ⟨r,1,none⟩ (.int .i64 ((k:Int) + 1))=w2 at *
 clear hw1
 go_wp2_with fail
 go_loopg [7] (s.size + 1 - (k + 1)) (fun gk ov wr=>∃ (p:Nat) (O:List UInt8),gk=s.size + 1 - p∧p ≤ s.size∧k + 1 ≤ p∧Hid (QS w r b s p ov O wr)∧Hid (R=(Zb6 (s.data.toList.drop p)).map fun x=>(O ++ x.1,p - (k + 1) + x.2))∧Hid (O.length ≤ p))
 case atStart=>exact ⟨k + 1,[],rfl,HK.out,Nat.le_refl _,HQ1,Lh (by rw [HR0.out];simp),Lh (Nat.zero_le _)⟩
 case round=>
  obtain ⟨p,O,rfl,hp,hkp,HQ,HT,HOL⟩:=hrel
  have HP:=Lh hp
  have HKP:=Lh hkp
  have HSH:=Lh HQ.out.own.shape
  have j0:(0:Int) ≤ (p:Int):=kW
  by_cases hlt:p < s.size
  ·have j1:(p:Int) < (s.size:Int):=kW
   have j2:¬ (s.size:Int) ≤ (p:Int):=kW
   obtain ⟨c,hc,hdr⟩:∃ c,s[p]=c∧s.data.toList.drop p=c :: s.data.toList.drop (p + 1):=⟨_,rfl,Zh9 s hlt⟩
   have HCC:=Lh hc
   have HDR:=Lh hdr
   have HLT:=Lh hlt
   have HWP1:=Lh (Zly ((p:Int) + 1) kW kb55)
   have HWP2:=Lh (Zly ((p:Int) + 1 + 1) kW kb55)
   have HPK:Hid (∀ W,RD r s p W→Calls Tryz.prog 111 #[pV r,.int .i64 1] W fun e w'=>e = .returned (byte (Zal (s.data.toList.drop (p + 1))))∧Below W.heap.size W w'):=Lh (fun W h=>Zuq r s p W h HS.out HP.out)
   clear hp hkp hdr hc
   go_upto_region 4 with fail
   obtain ⟨⟨d0,d1,g1⟩,-,-,-,-⟩:=HQ.out
   have l0:=Zb d0
   have l1:=Zb d1
   refine Zj kR kR ?_
   repeat (go_big_quiet_step (fail))
   refine wpQuiet_nil ?_
   refine Zu (fun w3 hb3=>?_)
   have HQ3:=Lh (HQ.out.later hb3)
   clear l0 l1 d0 d1 g1 hb3
   go_upto_region 6 with fail
   obtain ⟨⟨d0,d1,g1⟩,-,-,-,-⟩:=HQ3.out
   have l0:=Zb d0
   have l1:=Zb d1
   refine Zj kR kR ?_
   repeat (go_big_quiet_step (fail))
   refine wpQuiet_nil ?_
   refine Zu (fun w4 hb4=>?_)
   have HQ4:=Lh (HQ3.out.later hb4)
   clear l0 l1 d0 d1 g1 hb4
   rw [HCC.out]
   clear HCC j1 j2
   obtain ⟨d,hd⟩:∃ d,d=Zal (s.data.toList.drop (p + 1)):=⟨_,rfl⟩
   rw [← hd] at HPK
   have HD:=Lh hd
   clear hd hlt
   by_cases h39:c=39
   ·subst h39
    by_cases h40:d=39
    ·subst h40
     have HNX:Hid (p + 2 ≤ s.size∧R=(Zb6 (s.data.toList.drop (p + 2))).map fun x=>(O ++ [39] ++ x.1,p + 2 - (k + 1) + x.2)):=Lh (by
      have hlt2:p + 1 < s.size:=by
       rcases Nat.lt_or_ge (p + 1) s.size with h | h
       ·exact h
       ·exfalso
        have:=HD.out
        rw [Zh8 s h] at this
        exact absurd this kD
      have h2:=Zh9 s hlt2
      have h3:s[p + 1]=39:=by
       have:=HD.out
       rw [h2] at this
       exact this.symm
      refine ⟨hlt2,?_⟩
      rw [HT.out,HDR.out,h2,h3,Zug,Option.map_map]
      congr 1
      funext x
      have:=HKP.out
      simp
      omega)
     go_wp2_with fail
     refine (HPK.out _ HQ4.out.rd).mono ?_
     rintro e w5 ⟨rfl,hb5⟩
     have HQ5:=Lh (HQ4.out.later hb5)
     clear hb5
     have hwp:=HWP1.out
     obtain ⟨⟨d0,d1,g1⟩,-,-,-,-⟩:=HQ5.out
     go_upto_region 24 with fail
     have HQ6:=Lh (HQ5.out.set HRB.out (p + 1) ((p:Int) + 1) kW)
     clear d0 d1 g1
     generalize w5.setCell ⟨r,1,none⟩ (.int .i64 ((p:Int) + 1))=w6 at *
     clear hwp
     have hwp:=HWP2.out
     obtain ⟨ao,co,rfl⟩:=HSH.out
     go_wp2_with (at_builtin;refine Zcl rfl (.tmp 117) (.tmp 119) 63 rfl (b + 1) 5 Num.elem_u8 _ O rfl (.inl (HQ6.out.own.alloc _)) _ [39] rfl (Zes w6.heap.size [39] (fun i hi=>by rcases i with _ | i;(go_simp);(simp at hi))) (by simp) (by clear hwp;have:=HOL.out;have:=HS.out;have:=HP.out;simp;omega) (by clear hwp;have:=HQ6.out.sz;simp;omega) ?_;intro v' w9 hown hbel;have HQ9:=Lh (HQ6.out.app (W':=w9) HRB.out (((Below.refl _ w6).alloc HQ6.out.sz (.cells #[byte 39] 5)).trans hbel) hown (by clear hwp;have:=hbel.size;simp at this;omega) HBE.out);obtain ⟨⟨d0,d1,g1⟩,-,-,-,-⟩:=HQ9.out;clear hown hbel)
     go_roundg (s.size + 1 - (p + 2))
     case measure=>have:=HLT.out;omega
     case rel=>exact ⟨p + 2,_,rfl,HNX.out.1,by have:=HKP.out;omega,Lh (HQ9.out.set HRB.out (p + 2) _ kW),HNX.out.2 ▸ Lh rfl,Lh (by have:=HOL.out;simp;omega)⟩
    have e40:((d.toNat:Int) != 39)=true:=by
     have:d.toNat ≠ 39:=fun e=>h40 (UInt8.toNat_inj.1 e)
     first | (simp;done) | (simp;omega)
    have HRS:Hid (R=some (O,p - (k + 1) + 1)):=Lh (by
     rw [HT.out,HDR.out,Zsd (by rw [← HD.out];exact h40)]
     simp)
    clear h40
    go_wp2_with fail
    refine (HPK.out _ HQ4.out.rd).mono ?_
    rintro e w5 ⟨rfl,hb5⟩
    have HQ5:=Lh (HQ4.out.later hb5)
    clear hb5
    have hwp:=HWP1.out
    obtain ⟨ao,co,rfl⟩:=HSH.out
    obtain ⟨⟨d0,d1,g1⟩,-,-,-,-⟩:=HQ5.out
    go_upto_region 18 with fail
    have HQ6:=Lh (HQ5.out.set HRB.out (p + 1) ((p:Int) + 1) kW)
    clear d0 d1 g1
    generalize w5.setCell ⟨r,1,none⟩ (.int .i64 ((p:Int) + 1))=w6 at *
    clear hwp
    by_cases hlong:1000 < O.length
    ·have i1:(1000:Int) < (O.length:Int):=kW
     have HONE:Hid (Zcm (s.data.toList.drop k) = .bad 3 0):=Lh (by rw [HONE.out,HRS.out,Zr0 hlong])
     exact ks28
    have i1:¬ (1000:Int) < (O.length:Int):=kW
    have HONE:Hid (Zcm (s.data.toList.drop k) = .tok 4 O 0 (p - (k + 1) + 1 + 1)):=Lh (by rw [HONE.out,HRS.out,textR_ok hlong])
    have hcv:=convX (P:=Tryz.prog) 63 5 9 Tryz.underlying63 Tryz.underlying5 Tryz.underlying9 (.inl HQ6.out.own)
    clear hlong
    obtain ⟨c0,c1,c2,c3,f0,f1,f2,f3⟩:=HQ6.out.bx
    go_wp2_with fail
    obtain ⟨q0,q1,q2,q3⟩:=Zbb w6 b (.int .u8 4) (str O) (.int .u64 0) (iZ) HQ6.out.bx _ rfl
    rw [HONE.out]
    refine bodyPost_ret (v:=.tuple #[Tk.val ⟨4,⟨O.toArray⟩,0,0⟩,iZ]) kb70 rfl ⟨rfl,?_,Zab HQ6.out.gr _ _ _ _ HBE.out⟩
    have hpos:k + Zs3 (.tok 4 O 0 (p - (k + 1) + 1 + 1))=p + 1:=by have:=HKP.out;show k + (p - (k + 1) + 1 + 1)=p + 1;omega
    rw [hpos]
    exact HQ6.out.rd.box _ _ _ _ HNE.out
   have e39:((c.toNat:Int) == 39)=false:=by
    have:c.toNat ≠ 39:=fun e=>h39 (UInt8.toNat_inj.1 e)
    first | (simp;done) | (simp;omega)
   have HNX:Hid (R=(Zb6 (s.data.toList.drop (p + 1))).map fun x=>(O ++ [c] ++ x.1,p + 1 - (k + 1) + x.2)):=Lh (by
    rw [HT.out,HDR.out,Zps h39,Option.map_map]
    congr 1
    funext x
    have:=HKP.out
    simp
    omega)
   clear h39
   have hwp:=HWP1.out
   obtain ⟨ao,co,rfl⟩:=HSH.out
   go_wp2_with (at_builtin;refine Zcl rfl (.tmp 117) (.tmp 119) 63 rfl (b + 1) 5 Num.elem_u8 _ O rfl (.inl (HQ4.out.own.alloc _)) _ [c] rfl (Zes w4.heap.size [c] (fun i hi=>by rcases i with _ | i;(go_simp);(simp at hi))) (by simp) (by clear hwp;have:=HOL.out;have:=HS.out;have:=HP.out;simp;omega) (by clear hwp;have:=HQ4.out.sz;simp;omega) ?_;intro v' w9 hown hbel;have HQ9:=Lh (HQ4.out.app (W':=w9) HRB.out (((Below.refl _ w4).alloc HQ4.out.sz (.cells #[byte c] 5)).trans hbel) hown (by clear hwp;have:=hbel.size;simp at this;omega) HBE.out);obtain ⟨⟨d0,d1,g1⟩,-,-,-,-⟩:=HQ9.out;clear hown hbel)
   go_roundg (s.size + 1 - (p + 1))
   case measure=>have:=HLT.out;omega
   case rel=>exact ⟨p + 1,_,rfl,HLT.out,by have:=HKP.out;omega,Lh (HQ9.out.set HRB.out (p + 1) _ kW),HNX.out ▸ Lh rfl,Lh (by have:=HOL.out;simp;omega)⟩
  obtain rfl:p=s.size:=kW
  have j2:(s.size:Int) ≤ (s.size:Int):=kW
  have HONE:Hid (Zcm (s.data.toList.drop k) = .bad 6 (s.size - k)):=Lh (by
   rw [HONE.out,HT.out,Zh8 s (Nat.le_refl _)]
   rfl)
  clear hlt hp hkp
  go_upto_region 4 with fail
  obtain ⟨⟨d0,d1,g1⟩,-,-,-,-⟩:=HQ.out
  have l0:=Zb d0
  have l1:=Zb d1
  refine Zj kR kR ?_
  repeat (go_big_quiet_step (fail))
  refine wpQuiet_nil ?_
  refine Zu (fun w3 hb3=>?_)
  have HQ3:=Lh (HQ.out.later hb3)
  clear l0 l1 d0 d1 g1 hb3
  obtain ⟨c0,c1,c2,c3,f0,f1,f2,f3⟩:=HQ3.out.bx
  go_wp2_with fail
  obtain ⟨q0,q1,q2,q3⟩:=Zbb w3 b (.int .u8 0) (eS) (.int .u64 0) (iZ) HQ3.out.bx _ rfl
  rw [HONE.out]
  refine bodyPost_ret (v:=.tuple #[T0.val,.int .i64 6]) kb6 rfl ⟨rfl,(show RD r s (k + (s.size - k)) w3 by rw [show k + (s.size - k)=s.size by have:=HKP.out;omega];exact HQ3.out.rd).box _ _ _ _ HNE.out,Zab HQ3.out.gr _ _ _ _ HBE.out⟩
open Go.RowKit
def hexI (c:UInt8):Int:=match Zir c with | some n=>(n:Int) | none=>-1
theorem Zh6 {c:UInt8} {n:Nat} (h:Zir c=some n):hexI c=(n:Int):=by unfold hexI;rw [h]
theorem Zkd {c:UInt8} (h:Zir c=none):hexI c = -1:=by unfold hexI;rw [h]
theorem or16 (a b:Nat) (ha:a < 16) (hb:b < 16):bits BinOp.or IntKind.i64 ((a:Int) * 16) (b:Int)=((16 * a + b:Nat):Int):=by
 have h:∀ x y:Fin 16,bits BinOp.or IntKind.i64 (((x.val:Nat):Int) * 16) ((y.val:Nat):Int)=((16 * x.val + y.val:Nat):Int):=by decide +kernel
 exact h ⟨a,ha⟩ ⟨b,hb⟩
theorem Zvk (c:UInt8) (w:World):Calls Tryz.prog 139 #[byte c] w fun e w'=>e = .returned (.int .i64 (hexI c))∧w=w':=by
 have hc:=c.toNat_lt
 have HD:=Lh (fun W=>digW c W)
 by_cases h1:48 ≤ c.toNat∧c.toNat ≤ 57
 ·have HR:hexI c=((c.toNat - 48:Nat):Int):=Zh6 (by unfold Zir;rw [if_pos h1])
  rw [show Zdx c=true from decide_eq_true h1] at HD
  have a3:IntKind.wrap .u8 ((c.toNat:Int) - 48)=((c.toNat - 48:Nat):Int):=by rw [IntKind.wrap_u8];omega
  have A0:Hid ((48:Int) ≤ (c.toNat:Int)):=Lh kW
  rw [HR]
  clear HR h1
  go_enter Tryz.func139,Tryz.ntmps139
  go_wp2_with fail
  refine (HD.out _).mono ?_
  rintro e w1 ⟨rfl,rfl⟩
  have a1:=A0.out
  go_wp2_with fail
  go_ret
  exact ⟨rfl,rfl⟩
 rw [show Zdx c=false from decide_eq_false h1] at HD
 by_cases h2:97 ≤ c.toNat∧c.toNat ≤ 102
 ·have HR:hexI c=((c.toNat - 87:Nat):Int):=Zh6 (by unfold Zir;rw [if_neg h1,if_pos h2])
  have a1:(97:Int) ≤ (c.toNat:Int):=kW
  have a2:(c.toNat:Int) ≤ 102:=kW
  have a3:IntKind.wrap .u8 ((c.toNat:Int) - 97)=((c.toNat - 97:Nat):Int):=by rw [IntKind.wrap_u8];omega
  have a4:Hid (wrap64 (((c.toNat - 97:Nat):Int) + 10)=((c.toNat - 87:Nat):Int)):=Lh (by unfold wrap64;omega)
  have a5:Hid (((c.toNat - 97:Nat):Int) + 10=((c.toNat - 87:Nat):Int)):=Lh kW
  rw [HR]
  clear HR h1 h2
  go_enter Tryz.func139,Tryz.ntmps139
  go_wp2_with fail
  refine (HD.out _).mono ?_
  rintro e w1 ⟨rfl,rfl⟩
  go_wp2_with fail
  refine bodyPost_ret (v:=.int .i64 ((c.toNat - 87:Nat):Int)) (by simp [results,Tryz.results139,go_sem];first | exact a4.out | exact a5.out) rfl ⟨rfl,rfl⟩
 have HR:hexI c = -1:=Zkd (by unfold Zir;rw [if_neg h1,if_neg h2])
 rw [HR]
 clear HR
 by_cases b0:(97:Int) ≤ (c.toNat:Int)
 ·have b1:¬ (c.toNat:Int) ≤ 102:=kW
  exact ks69
 exact ks69
def bsh (O:List UInt8) (j:Nat):Nat ⊕ (List UInt8 × Nat)→Nat ⊕ (List UInt8 × Nat)
 | .inl e=>.inl (j + e)
 | .inr x=>.inr (O ++ x.1,j + x.2)
theorem Zsu {c:UInt8} (h39:c ≠ 39) (h:Zir c=none) (l:List UInt8):Zb7 (c :: l) = .inl 0:=by
 cases l with
 | nil=>rw [Zb7,if_neg h39,if_pos h]
 | cons d l=>rw [Zb7,if_neg h39,h]
theorem Zsv {c:UInt8} (h39:c ≠ 39) {a:Nat} (h:Zir c=some a) {l:List UInt8} (hl:Zir (Zal l)=none):Zb7 (c :: l) = .inl 1:=by
 cases l with
 | nil=>rw [Zb7,if_neg h39,if_neg (by rw [h];simp)]
 | cons d l=>
  have hd:Zir d=none:=hl
  rw [Zb7,if_neg h39,h,hd]
theorem Zst {c d:UInt8} (h39:c ≠ 39) {a b:Nat} (h:Zir c=some a) (hd:Zir d=some b) (l:List UInt8) (O:List UInt8) (j:Nat):bsh O j (Zb7 (c :: d :: l))=bsh (O ++ [UInt8.ofNat (16 * a + b)]) (j + 2) (Zb7 l):=by
 rw [Zb7,if_neg h39,h,hd]
 simp only
 cases Zb7 l with
 | inl e=>simp only [bsh];congr 1;omega
 | inr x=>simp only [bsh];congr 2;simp;omega
theorem Zqa (l:List UInt8):Zb7 (39 :: l) = .inr ([],1):=by
 cases l with
 | nil=>rw [Zb7,if_pos rfl]
 | cons d l=>rw [Zb7,if_pos rfl]
theorem hex_zero:Zir 0=none:=by decide +kernel
theorem blobLexW (r:Nat) (s:ByteArray) (k:Nat) (w:World) (h:RD r s k w) (hs:s.size ≤ 1000000) (hk:k + 2 ≤ s.size) :
 Calls Tryz.prog 114 #[pV r,.int .u8 5] w fun e w'=>e = .returned (outV (Zb8 (s.data.toList.drop k)))∧RD r s (k + Zs3 (Zb8 (s.data.toList.drop k))) w'∧w.grownBy w' (some r):=by
 obtain ⟨R,hR⟩:∃ R,R=Zb7 (s.data.toList.drop (k + 2)):=⟨_,rfl⟩
 have HONE:Hid (Zb8 (s.data.toList.drop k)=blobR R):=Lh (by rw [Zsx,List.drop_drop,← hR])
 have HR0:=Lh hR
 have HQ0:Hid (QS w r w.heap.size s k (nS) [] (w.alloc (.cells #[.int .u8 0,eS,.int .u64 0,iZ] 128))):=Lh (QS.new h _)
 have HRB:Hid (r < w.heap.size):=Lh h.lt
 have HS:=Lh hs
 have HK:=Lh hk
 have HW1:=Lh (Zly ((k:Int) + 2) kW kW)
 clear h hs hk hR
 go_enter Tryz.func114,Tryz.ntmps114
 go_upto_region 1 with fail
 generalize (w.alloc (.cells #[.int .u8 0,eS,.int .u64 0,iZ] 128))=w1 at *
 obtain ⟨b,hb⟩:∃ b,b=w.heap.size:=⟨_,rfl⟩
 rw [← hb] at HQ0 HRB ⊢
 have HBE:=Lh (Nat.le_of_eq hb.symm)
 have HNE:Hid (b ≠ r):=Lh (by have:=HRB.out;omega)
 clear hb
 have hw1:=HW1.out
 obtain ⟨⟨d0,d1,g1⟩,-,-,-,-⟩:=HQ0.out
 go_upto_region 3 with fail
 have HQ1:=Lh (HQ0.out.set HRB.out (k + 2) ((k:Int) + 2) kW)
 clear d0 d1 g1
 generalize w1.setCell ⟨r,1,none⟩ (.int .i64 ((k:Int) + 2))=w2 at *
 clear hw1
 go_wp2_with fail
 go_loopg [7] (s.size + 1 - (k + 2)) (fun gk ov wr=>∃ (p:Nat) (O:List UInt8),gk=s.size + 1 - p∧p ≤ s.size∧k + 2 ≤ p∧Hid (QS w r b s p ov O wr)∧Hid (R=bsh O (p - (k + 2)) (Zb7 (s.data.toList.drop p)))∧Hid (O.length ≤ p))
 case atStart=>exact ⟨k + 2,[],rfl,HK.out,Nat.le_refl _,HQ1,Lh (by rw [HR0.out];cases Zb7 (s.data.toList.drop (k + 2)) <;> simp [bsh]),Lh (Nat.zero_le _)⟩
 case round=>
  obtain ⟨p,O,rfl,hp,hkp,HQ,HT,HOL⟩:=hrel
  have HP:=Lh hp
  have HKP:=Lh hkp
  have HSH:=Lh HQ.out.own.shape
  have j0:(0:Int) ≤ (p:Int):=kW
  by_cases hlt:p < s.size
  ·have j1:(p:Int) < (s.size:Int):=kW
   have j2:¬ (s.size:Int) ≤ (p:Int):=kW
   obtain ⟨c,hc,hdr⟩:∃ c,s[p]=c∧s.data.toList.drop p=c :: s.data.toList.drop (p + 1):=⟨_,rfl,Zh9 s hlt⟩
   have HCC:=Lh hc
   have HDR:=Lh hdr
   have HLT:=Lh hlt
   have HWP1:=Lh (Zly ((p:Int) + 1) kW kb55)
   have HWP2:=Lh (Zly ((p:Int) + 1 + 1) kW kb55)
   have HPK:Hid (∀ W,RD r s (p + 1) W→Calls Tryz.prog 111 #[pV r,iZ] W fun e w'=>e = .returned (byte (Zal (s.data.toList.drop (p + 1))))∧Below W.heap.size W w'):=Lh (fun W h=>Zpv r s (p + 1) W h HS.out HLT.out)
   clear hp hkp hdr hc
   go_upto_region 4 with fail
   obtain ⟨⟨d0,d1,g1⟩,-,-,-,-⟩:=HQ.out
   have l0:=Zb d0
   have l1:=Zb d1
   refine Zj kR kR ?_
   repeat (go_big_quiet_step (fail))
   refine wpQuiet_nil ?_
   refine Zu (fun w3 hb3=>?_)
   have HQ3:=Lh (HQ.out.later hb3)
   clear l0 l1 d0 d1 g1 hb3
   go_upto_region 6 with fail
   obtain ⟨⟨d0,d1,g1⟩,-,-,-,-⟩:=HQ3.out
   have l0:=Zb d0
   have l1:=Zb d1
   refine Zj kR kR ?_
   repeat (go_big_quiet_step (fail))
   refine wpQuiet_nil ?_
   refine Zu (fun w4 hb4=>?_)
   have HQ4:=Lh (HQ3.out.later hb4)
   clear l0 l1 d0 d1 g1 hb4
   rw [HCC.out]
   clear HCC j1 j2
   obtain ⟨d,hd⟩:∃ d,d=Zal (s.data.toList.drop (p + 1)):=⟨_,rfl⟩
   rw [← hd] at HPK
   have HD:=Lh hd
   have HX1:=Lh (fun W=>Zvk c W)
   have HX2:=Lh (fun W=>Zvk d W)
   clear hd hlt
   by_cases h39:c=39
   ·subst h39
    have HRS:Hid (R = .inr (O,p - (k + 2) + 1)):=Lh (by
     rw [HT.out,HDR.out,Zqa]
     simp [bsh])
    have hwp:=HWP1.out
    obtain ⟨ao,co,rfl⟩:=HSH.out
    obtain ⟨⟨d0,d1,g1⟩,-,-,-,-⟩:=HQ4.out
    go_upto_region 18 with fail
    have HQ6:=Lh (HQ4.out.set HRB.out (p + 1) ((p:Int) + 1) kW)
    clear d0 d1 g1
    generalize w4.setCell ⟨r,1,none⟩ (.int .i64 ((p:Int) + 1))=w6 at *
    clear hwp
    by_cases hlong:1000 < O.length
    ·have i1:(1000:Int) < (O.length:Int):=kW
     have HONE:Hid (Zb8 (s.data.toList.drop k) = .bad 3 0):=Lh (by rw [HONE.out,HRS.out,Zsw hlong])
     exact ks28
    have i1:¬ (1000:Int) < (O.length:Int):=kW
    have HONE:Hid (Zb8 (s.data.toList.drop k) = .tok 5 O 0 (p - (k + 2) + 1 + 2)):=Lh (by rw [HONE.out,HRS.out,blobR_ok hlong])
    have hcv:=convX (P:=Tryz.prog) 63 5 9 Tryz.underlying63 Tryz.underlying5 Tryz.underlying9 (.inl HQ6.out.own)
    clear hlong
    obtain ⟨c0,c1,c2,c3,f0,f1,f2,f3⟩:=HQ6.out.bx
    go_wp2_with fail
    obtain ⟨q0,q1,q2,q3⟩:=Zbb w6 b (.int .u8 5) (str O) (.int .u64 0) (iZ) HQ6.out.bx _ rfl
    rw [HONE.out]
    refine bodyPost_ret (v:=.tuple #[Tk.val ⟨5,⟨O.toArray⟩,0,0⟩,iZ]) kb70 rfl ⟨rfl,?_,Zab HQ6.out.gr _ _ _ _ HBE.out⟩
    have hpos:k + Zs3 (.tok 5 O 0 (p - (k + 2) + 1 + 2))=p + 1:=by have:=HKP.out;show k + (p - (k + 2) + 1 + 2)=p + 1;omega
    rw [hpos]
    exact HQ6.out.rd.box _ _ _ _ HNE.out
   have e39:((c.toNat:Int) == 39)=false:=by
    have:c.toNat ≠ 39:=fun e=>h39 (UInt8.toNat_inj.1 e)
    first | (simp;done) | (simp;omega)
   have e40:((c.toNat:Int) != 39)=true:=by
    have:c.toNat ≠ 39:=fun e=>h39 (UInt8.toNat_inj.1 e)
    first | (simp;done) | (simp;omega)
   have H39:=Lh h39
   clear h39
   cases hqc:Zir c with
   | none=>
    rw [Zkd hqc] at HX1
    have HONE:Hid (Zb8 (s.data.toList.drop k) = .bad 6 (p - (k + 2) + 2)):=Lh (by
     rw [HONE.out,HT.out,HDR.out,Zsu H39.out hqc]
     rfl)
    clear hqc
    go_wp2_with fail
    refine (HX1.out _).mono ?_
    rintro e w5 ⟨rfl,rfl⟩
    obtain ⟨c0,c1,c2,c3,f0,f1,f2,f3⟩:=HQ4.out.bx
    go_wp2_with fail
    obtain ⟨q0,q1,q2,q3⟩:=Zbb w4 b (.int .u8 0) (eS) (.int .u64 0) (iZ) HQ4.out.bx _ rfl
    rw [HONE.out]
    refine bodyPost_ret (v:=.tuple #[T0.val,.int .i64 6]) kb6 rfl ⟨rfl,(show RD r s (k + (p - (k + 2) + 2)) w4 by rw [show k + (p - (k + 2) + 2)=p by have:=HKP.out;omega];exact HQ4.out.rd).box _ _ _ _ HNE.out,Zab HQ4.out.gr _ _ _ _ HBE.out⟩
   | some a=>
    rw [Zh6 hqc] at HX1
    have hpa:¬ (a:Int) < 0:=kW
    cases hqd:Zir d with
    | none=>
     rw [Zkd hqd] at HX2
     have HONE:Hid (Zb8 (s.data.toList.drop k) = .bad 6 (p - (k + 2) + 1 + 2)):=Lh (by
      rw [HONE.out,HT.out,HDR.out,Zsv H39.out hqc (by rw [← HD.out];exact hqd)]
      rfl)
     clear hqc hqd
     have hwp:=HWP1.out
     go_wp2_with fail
     refine (HX1.out _).mono ?_
     rintro e w5 ⟨rfl,rfl⟩
     obtain ⟨⟨d0,d1,g1⟩,-,-,-,-⟩:=HQ4.out
     go_upto_region 12 with fail
     have HQ6:=Lh (HQ4.out.set HRB.out (p + 1) ((p:Int) + 1) kW)
     clear d0 d1 g1
     generalize w4.setCell ⟨r,1,none⟩ (.int .i64 ((p:Int) + 1))=w6 at *
     clear hwp
     go_wp2_with fail
     refine (HPK.out _ HQ6.out.rd).mono ?_
     rintro e w7 ⟨rfl,hb7⟩
     have HQ7:=Lh (HQ6.out.later hb7)
     clear hb7
     go_wp2_with fail
     refine (HX2.out _).mono ?_
     rintro e w5 ⟨rfl,rfl⟩
     obtain ⟨c0,c1,c2,c3,f0,f1,f2,f3⟩:=HQ7.out.bx
     go_wp2_with fail
     obtain ⟨q0,q1,q2,q3⟩:=Zbb w7 b (.int .u8 0) (eS) (.int .u64 0) (iZ) HQ7.out.bx _ rfl
     rw [HONE.out]
     refine bodyPost_ret (v:=.tuple #[T0.val,.int .i64 6]) kb6 rfl ⟨rfl,(show RD r s (k + (p - (k + 2) + 1 + 2)) w7 by rw [show k + (p - (k + 2) + 1 + 2)=p + 1 by have:=HKP.out;omega];exact HQ7.out.rd).box _ _ _ _ HNE.out,Zab HQ7.out.gr _ _ _ _ HBE.out⟩
    | some y=>
     rw [Zh6 hqd] at HX2
     have ha:=(Zoi hqc).2
     have hy:=(Zoi hqd).2
     have HNX:Hid (p + 2 ≤ s.size∧R=bsh (O ++ [UInt8.ofNat (16 * a + y)]) (p + 2 - (k + 2)) (Zb7 (s.data.toList.drop (p + 2)))):=Lh (by
      have hlt2:p + 1 < s.size:=by
       rcases Nat.lt_or_ge (p + 1) s.size with h | h
       ·exact h
       ·exfalso
        have h1:=HD.out
        rw [Zh8 s h] at h1
        rw [h1] at hqd
        exact absurd hqd (by rw [show Zal []=0 from rfl,hex_zero];simp)
      have h2:=Zh9 s hlt2
      have h3:s[p + 1]=d:=by
       have h1:=HD.out
       rw [h2] at h1
       exact h1.symm
      refine ⟨hlt2,?_⟩
      rw [HT.out,HDR.out,h2,h3,Zst H39.out hqc hqd]
      have:=HKP.out
      rw [show p - (k + 2) + 2=p + 2 - (k + 2) by omega])
     have hp2:¬ (y:Int) < 0:=kW
     obtain ⟨x,hx⟩:∃ x:UInt8,x=UInt8.ofNat (16 * a + y):=⟨_,rfl⟩
     have hxn:x.toNat=16 * a + y:=by rw [hx,UInt8.toNat_ofNat',Nat.mod_eq_of_lt kW]
     have hor:bits BinOp.or IntKind.i64 ((a:Int) * 16) (y:Int)=(x.toNat:Int):=by rw [hxn];exact or16 a y ha hy
     have hm:(x.toNat:Int) % 256=(x.toNat:Int):=kW
     have hw16:wrap64 ((a:Int) * 16)=(a:Int) * 16:=by unfold wrap64;omega
     have HOR:=Lh hor
     have HM:=Lh hm
     have HW16:=Lh hw16
     rw [← hx] at HNX
     clear hqc hqd ha hy hx hxn hor hm hw16
     have hwp:=HWP1.out
     go_wp2_with fail
     refine (HX1.out _).mono ?_
     rintro e w5 ⟨rfl,rfl⟩
     obtain ⟨⟨d0,d1,g1⟩,-,-,-,-⟩:=HQ4.out
     go_upto_region 12 with fail
     have HQ6:=Lh (HQ4.out.set HRB.out (p + 1) ((p:Int) + 1) kW)
     clear d0 d1 g1
     generalize w4.setCell ⟨r,1,none⟩ (.int .i64 ((p:Int) + 1))=w6 at *
     clear hwp
     go_wp2_with fail
     refine (HPK.out _ HQ6.out.rd).mono ?_
     rintro e w7 ⟨rfl,hb7⟩
     have HQ7:=Lh (HQ6.out.later hb7)
     clear hb7
     go_wp2_with fail
     refine (HX2.out _).mono ?_
     rintro e w5 ⟨rfl,rfl⟩
     have hor:=HOR.out
     have hm:=HM.out
     have hw16:=HW16.out
     have hwp:=HWP2.out
     obtain ⟨ao,co,rfl⟩:=HSH.out
     go_wp2_with (at_builtin;refine Zcl rfl (.tmp 117) (.tmp 119) 63 rfl (b + 1) 5 Num.elem_u8 _ O rfl (.inl (HQ7.out.own.alloc _)) _ [x] rfl (Zes w7.heap.size [x] (fun i hi=>by rcases i with _ | i;(go_simp);(simp at hi))) (by simp) (by clear hwp hor hm hw16;have:=HOL.out;have:=HS.out;have:=HP.out;simp;omega) (by clear hwp hor hm hw16;have:=HQ7.out.sz;simp;omega) ?_;intro v' w9 hown hbel;have HQ9:=Lh (HQ7.out.app (W':=w9) HRB.out (((Below.refl _ w7).alloc HQ7.out.sz (.cells #[byte x] 5)).trans hbel) hown (by clear hwp hor hm hw16;have:=hbel.size;simp at this;omega) HBE.out);obtain ⟨⟨d0,d1,g1⟩,-,-,-,-⟩:=HQ9.out;clear hown hbel)
     go_roundg (s.size + 1 - (p + 2))
     case measure=>have:=HLT.out;omega
     case rel=>exact ⟨p + 2,_,rfl,HNX.out.1,by have:=HKP.out;omega,Lh (HQ9.out.set HRB.out (p + 2) _ kW),Lh HNX.out.2,Lh (by have:=HOL.out;simp;omega)⟩
  obtain rfl:p=s.size:=kW
  have j2:(s.size:Int) ≤ (s.size:Int):=kW
  have HONE:Hid (Zb8 (s.data.toList.drop k) = .bad 6 (s.size - (k + 2) + 2)):=Lh (by
   rw [HONE.out,HT.out,Zh8 s (Nat.le_refl _)]
   rfl)
  clear hlt hp hkp
  go_upto_region 4 with fail
  obtain ⟨⟨d0,d1,g1⟩,-,-,-,-⟩:=HQ.out
  have l0:=Zb d0
  have l1:=Zb d1
  refine Zj kR kR ?_
  repeat (go_big_quiet_step (fail))
  refine wpQuiet_nil ?_
  refine Zu (fun w3 hb3=>?_)
  have HQ3:=Lh (HQ.out.later hb3)
  clear l0 l1 d0 d1 g1 hb3
  obtain ⟨c0,c1,c2,c3,f0,f1,f2,f3⟩:=HQ3.out.bx
  go_wp2_with fail
  obtain ⟨q0,q1,q2,q3⟩:=Zbb w3 b (.int .u8 0) (eS) (.int .u64 0) (iZ) HQ3.out.bx _ rfl
  rw [HONE.out]
  refine bodyPost_ret (v:=.tuple #[T0.val,.int .i64 6]) kb6 rfl ⟨rfl,(show RD r s (k + (s.size - (k + 2) + 2)) w3 by rw [show k + (s.size - (k + 2) + 2)=s.size by have:=HKP.out;omega];exact HQ3.out.rd).box _ _ _ _ HNE.out,Zab HQ3.out.gr _ _ _ _ HBE.out⟩
def outT:One→Tk × Nat
 | .tok k s n _=>(⟨k,⟨s.toArray⟩,n,0⟩,0)
 | .bad e _=>(T0,e)
theorem Zpw (o:One):outV o = .tuple #[.agg #[.int .u8 ((outT o).1.k:Int),.string (outT o).1.s,.int .u64 ((outT o).1.n:Int),.int .i64 (outT o).1.a],.int .i64 ((outT o).2:Int)]:=by cases o <;> rfl
theorem tokenW (w0:World) (r:Nat) (s:ByteArray) (k:Nat) (w:World) (hx:Env w0 r w) (h:RD r s k w) (hs:s.size ≤ 1000000) (hk:k < s.size) :
 Calls Tryz.prog 72 #[pV r] w fun e w'=>e = .returned (outV (Zcx (s.data.toList.drop k)))∧RD r s (k + Zs3 (Zcx (s.data.toList.drop k))) w'∧w.grownBy w' (some r):=by
 obtain ⟨l,hl⟩:∃ l,l=s.data.toList.drop k:=⟨_,rfl⟩
 obtain ⟨p,hp⟩:∃ p,p=k + Zs3 (Zcx l):=⟨_,rfl⟩
 rw [← hl,← hp,Zpw]
 obtain ⟨V,hV⟩:∃ V,V=outT (Zcx l):=⟨_,rfl⟩
 have hv2:=Zpw (Zcx l)
 rw [← hV] at hv2 ⊢
 obtain ⟨⟨tk,ts,tn,ta⟩,te⟩:=V
 have HV:=Lh hv2
 have HPP:=Lh hp
 have HL:=Lh hl
 have HS:=Lh hs
 have HK:=Lh hk
 have HX:=Lh hx
 have hne:w.heap.size ≠ r:=by have:=h.lt;omega
 have HNE:=Lh hne
 have HP0:Hid (∀ W,RD r s k W→Calls Tryz.prog 111 #[pV r,iZ] W fun e w'=>e = .returned (byte (Zal l))∧Below W.heap.size W w'):=Lh (fun W h=>by rw [hl];exact Zpv r s k W h hs kW)
 have HP1:Hid (∀ W,RD r s k W→Calls Tryz.prog 111 #[pV r,.int .i64 1] W fun e w'=>e = .returned (byte (Zal (l.drop 1)))∧Below W.heap.size W w'):=Lh (fun W h=>by rw [hl,List.drop_drop];exact Zuq r s k W h hs kW)
 have H1G:Hid (w.grownBy (w.alloc (.cells #[.int .u8 0,eS,.int .u64 0,iZ] 128)) (some r)):=Lh (below_grown (bA))
 have H1R:Hid (RD r s k (w.alloc (.cells #[.int .u8 0,eS,.int .u64 0,iZ] 128))):=Lh (h.later (bA))
 have H1B:Hid (Zlw w.heap.size (w.alloc (.cells #[.int .u8 0,eS,.int .u64 0,iZ] 128))):=Lh (Zhn _ _)
 clear hl hp hv2 hV hx h hs hk hne
 simp only
 go_enter Tryz.func72,Tryz.ntmps72
 go_upto_region 2 with fail
 generalize (w.alloc (.cells #[.int .u8 0,eS,.int .u64 0,iZ] 128))=w1 at *
 obtain ⟨b,hb⟩:∃ b,b=w.heap.size:=⟨_,rfl⟩
 rw [← hb] at H1B HNE ⊢
 have HBE:=Lh (Nat.le_of_eq hb.symm)
 clear hb
 obtain ⟨c,hc⟩:∃ c,c=Zal l:=⟨_,rfl⟩
 obtain ⟨d,hd⟩:∃ d,d=Zal (l.drop 1):=⟨_,rfl⟩
 rw [← hc] at HP0
 rw [← hd] at HP1
 have HC:=Lh hc.symm
 have HD:=Lh hd.symm
 clear hc hd
 go_wp2_with fail
 refine (HP0.out _ H1R.out).mono ?_
 rintro e w2 ⟨rfl,hb2⟩
 have H2R:=Lh (H1R.out.later hb2)
 have H2B:=Lh (H1B.out.later hb2)
 have H2G:=Lh (Za H1G.out (below_grown hb2))
 clear hb2 H1R H1B H1G HP0
 by_cases h39:c=39
 ·subst h39
  have HQT:Hid (∀ W,RD r s k W→w.grownBy W (some r)→Calls Tryz.prog 114 #[pV r,.int .u8 4] W fun e w'=>e = .returned (.tuple #[.agg #[.int .u8 (tk:Int),.string ts,.int .u64 (tn:Int),.int .i64 ta],.int .i64 (te:Int)])∧RD r s p w'∧W.grownBy w' (some r)):=Lh (fun W h g=>by
   have h1:Zcx l=Zcm l:=by
    unfold Zcx
    rw [if_pos HC.out]
   have h2:=HV.out
   have h3:=HPP.out
   rw [h1] at h2 h3
   rw [h3,← h2,HL.out]
   exact textLexW r s k W h HS.out HK.out)
  go_wp2_with fail
  refine (HQT.out _ H2R.out H2G.out).mono ?_
  rintro e w9 ⟨rfl,hr9,hg9⟩
  have HR9:=Lh hr9
  have HB9:=Lh (H2B.out.grown hg9 HNE.out)
  have HG9:=Lh (Za H2G.out hg9)
  clear hr9 hg9
  obtain ⟨c0,c1,c2,c3,f0,f1,f2,f3⟩:=HB9.out
  go_wp2_with fail
  obtain ⟨q0,q1,q2,q3⟩:=Zbb w9 b (.int .u8 (tk:Int)) (.string ts) (.int .u64 (tn:Int)) (.int .i64 ta) HB9.out _ rfl
  refine bodyPost_ret (v:=.tuple #[.agg #[.int .u8 (tk:Int),.string ts,.int .u64 (tn:Int),.int .i64 ta],.int .i64 (te:Int)]) kb15 rfl ⟨rfl,HR9.out.box _ _ _ _ HNE.out,Zab HG9.out _ _ _ _ HBE.out⟩
 have e39:((c.toNat:Int) == 39)=false:=by
  have:c.toNat ≠ 39:=fun e=>h39 (UInt8.toNat_inj.1 e)
  first | (simp;done) | (simp;omega)
 have H39:Hid (¬ Zal l=39):=Lh (by rw [HC.out];exact h39)
 clear h39
 go_upto_region 5 with fail
 obtain ⟨B,hB⟩:∃ B,B=decide (c=120∧d=39):=⟨_,rfl⟩
 have HBB:=Lh hB
 clear hB e39
 go_cut [17] (fun v wx=>v = .bool B∧Hid (RD r s k wx)∧Hid (Zlw b wx)∧Hid (w.grownBy wx (some r)))
 case first=>
  by_cases h120:c=120
  ·subst h120
   by_cases hd:d=39
   ·subst hd
    obtain rfl:B=true:=by rw [HBB.out];rfl
    exact ks45
   obtain rfl:B=false:=by rw [HBB.out];exact decide_eq_false (fun e=>hd e.2)
   have e1:((d.toNat:Int) == 39)=false:=by
    have:d.toNat ≠ 39:=fun e=>hd (UInt8.toNat_inj.1 e)
    first | (simp;done) | (simp;omega)
   clear hd
   exact ks45
  obtain rfl:B=false:=by rw [HBB.out];exact decide_eq_false (fun e=>h120 e.1)
  have e1:((c.toNat:Int) == 120)=false:=by
   have:c.toNat ≠ 120:=fun e=>h120 (UInt8.toNat_inj.1 e)
   first | (simp;done) | (simp;omega)
  clear h120
  go_wp2_with fail
  go_meet
  exact ⟨rfl,H2R,H2B,H2G⟩
 rename World=>w4
 obtain ⟨rfl,H4R,H4B,H4G⟩:=hcut
 clear H2R H2B H2G HP1
 have HBT:Hid ((Zal l=120∧Zal (l.drop 1)=39) ↔ B=true):=Lh (by rw [HC.out,HD.out,HBB.out];exact decide_eq_true_iff.symm)
 clear HBB
 cases B with
 | true=>
  have HQB:Hid (∀ W,RD r s k W→w.grownBy W (some r)→Calls Tryz.prog 114 #[pV r,.int .u8 5] W fun e w'=>e = .returned (.tuple #[.agg #[.int .u8 (tk:Int),.string ts,.int .u64 (tn:Int),.int .i64 ta],.int .i64 (te:Int)])∧RD r s p w'∧W.grownBy w' (some r)):=Lh (fun W h g=>by
   have h1:Zcx l=Zb8 l:=by
    unfold Zcx
    rw [if_neg H39.out,if_pos (HBT.out.2 rfl)]
   have h2:=HV.out
   have h3:=HPP.out
   rw [h1] at h2 h3
   rw [h3,← h2,HL.out]
   exact blobLexW r s k W h HS.out (by
    have h5:=(HBT.out.2 rfl).2
    rw [HL.out,List.drop_drop] at h5
    rcases Nat.lt_or_ge (k + 1) s.size with h6 | h6
    ·exact h6
    ·rw [Zib s (k + 1) h6] at h5;exact absurd h5 kD))
  go_wp2_with fail
  refine (HQB.out _ H4R.out H4G.out).mono ?_
  exact ks6
 | false=>
  have H120:Hid (¬ (Zal l=120∧Zal (l.drop 1)=39)):=Lh (fun e=>absurd (HBT.out.1 e) kD)
  clear HBT
  go_upto_region 7 with fail
  obtain ⟨S,hS⟩:∃ S,S=Zdi c:=⟨_,rfl⟩
  obtain ⟨P,hP⟩:∃ P,P=Zf3 c:=⟨_,rfl⟩
  have HSM:Hid (∀ W,Calls Tryz.prog 115 #[byte c] W fun e w'=>e = .returned (.bool S)∧W=w'):=Lh (fun W=>by rw [hS];exact smallW c W)
  have HCP:Hid (∀ W,Calls Tryz.prog 116 #[byte c] W fun e w'=>e = .returned (.bool P)∧W=w'):=Lh (fun W=>by rw [hP];exact capW c W)
  have HSP:Hid ((Zdi (Zal l) || Zf3 (Zal l))=(S || P)):=Lh (by rw [HC.out,hS,hP])
  clear hS hP
  go_cut [29] (fun v wx=>v = .bool (S || P)∧w4=wx)
  case first=>
   cases S with
   | true=>
    go_wp2_with fail
    refine (HSM.out _).mono ?_
    rintro e w5 ⟨rfl,rfl⟩
    go_wp2_with fail
    go_meet
    exact ⟨rfl,rfl⟩
   | false=>
    cases P with
    | true=>
     exact ks65
    | false=>
     exact ks65
  case rest=>
   obtain ⟨rfl,rfl⟩:=hcut
   obtain ⟨X,hX⟩:∃ X,X=(S || P):=⟨_,rfl⟩
   rw [← hX] at HSP ⊢
   clear hX HSM HCP
   cases X with
   | true=>
    have HWD:Hid (∀ W,RD r s k W→w.grownBy W (some r)→Calls Tryz.prog 117 #[pV r] W fun e w'=>e = .returned (.tuple #[.agg #[.int .u8 (tk:Int),.string ts,.int .u64 (tn:Int),.int .i64 ta],.int .i64 (te:Int)])∧RD r s p w'∧W.grownBy w' (some r)):=Lh (fun W h g=>by
     have h1:Zcx l=Zbu l:=by
      unfold Zcx
      rw [if_neg H39.out,if_neg H120.out,if_pos HSP.out]
     have h2:=HV.out
     have h3:=HPP.out
     rw [h1] at h2 h3
     rw [h3,← h2,HL.out]
     exact wordW w0 r s k W (HX.out.grown g) h HS.out (Nat.le_of_lt HK.out))
    go_wp2_with fail
    refine (HWD.out _ H4R.out H4G.out).mono ?_
    exact ks6
   | false=>
    obtain ⟨D,hD⟩:∃ D,D=Zdx c:=⟨_,rfl⟩
    have HDG:Hid (∀ W,Calls Tryz.prog 118 #[byte c] W fun e w'=>e = .returned (.bool D)∧W=w'):=Lh (fun W=>by rw [hD];exact digW c W)
    have HDD:Hid (Zdx (Zal l)=D):=Lh (by rw [HC.out,hD])
    clear hD
    go_wp2_with fail
    refine (HDG.out _).mono ?_
    rintro e w5 ⟨rfl,rfl⟩
    cases D with
    | true=>
     have HNU:Hid (∀ W,RD r s k W→w.grownBy W (some r)→Calls Tryz.prog 119 #[pV r] W fun e w'=>e = .returned (.tuple #[.agg #[.int .u8 (tk:Int),.string ts,.int .u64 (tn:Int),.int .i64 ta],.int .i64 (te:Int)])∧RD r s p w'∧W.grownBy w' (some r)):=Lh (fun W h g=>by
      have h1:Zcx l=Zc2 l:=by
       unfold Zcx
       rw [if_neg H39.out,if_neg H120.out,if_neg (by rw [HSP.out];decide),if_pos HDD.out]
      have h2:=HV.out
      have h3:=HPP.out
      rw [h1] at h2 h3
      rw [h3,← h2,HL.out]
      exact numberW w0 r s k W (HX.out.grown g) h HS.out (Nat.le_of_lt HK.out) (by rw [← HL.out];exact HDD.out))
     go_wp2_with fail
     refine (HNU.out _ H4R.out H4G.out).mono ?_
     exact ks6
    | false=>
     have HSG:Hid (∀ W,RD r s k W→w.grownBy W (some r)→Calls Tryz.prog 113 #[pV r] W fun e w'=>e = .returned (.tuple #[.agg #[.int .u8 (tk:Int),.string ts,.int .u64 (tn:Int),.int .i64 ta],.int .i64 (te:Int)])∧RD r s p w'∧W.grownBy w' (some r)):=Lh (fun W h g=>by
      have h1:Zcx l=Zbm l:=by
       unfold Zcx
       rw [if_neg H39.out,if_neg H120.out,if_neg (by rw [HSP.out];decide),if_neg (by rw [HDD.out];decide)]
      have h2:=HV.out
      have h3:=HPP.out
      rw [h1] at h2 h3
      rw [h3,← h2,HL.out]
      exact signW r s k W h HS.out HK.out)
     go_wp2_with fail
     refine (HSG.out _ H4R.out H4G.out).mono ?_
     exact ks6
theorem equal_T (a b:Int) (s t:ByteArray) (c d e f:Int) (w:World) (n:Nat):(Op.equalIn (n + 3) 128 (.agg #[.int .u8 a,.string s,.int .u64 c,.int .i64 e]) (.agg #[.int .u8 b,.string t,.int .u64 d,.int .i64 f])).run Tryz.prog w = .ok (a == b && (s.toList == t.toList && (c == d && e == f))) w:=by
 rw [show n + 3=(n + 2) + 1 from rfl,run_equalIn_agg w (n + 2) 128 _ _ kR kR]
 go_simp
 by_cases h1:a=b <;> by_cases h2:c=d <;> by_cases h3:(s.toList == t.toList)=true <;> by_cases h4:e=f <;> simp_all
theorem same_T (x y:Tk):((x.k:Int) == (y.k:Int) && (x.s.toList == y.s.toList && ((x.n:Int) == (y.n:Int) && x.a == y.a)))=decide (x=y):=by
 rw [str_eq,Bool.eq_iff_iff]
 simp only [Bool.and_eq_true,beq_iff_eq,decide_eq_true_eq]
 constructor
 ·rintro ⟨h1,h2,h3,h4⟩;exact Tk.ext' kW h2 kW h4
 rintro rfl;exact ⟨rfl,rfl,rfl,rfl⟩
theorem Zuv (x y:Tk) (t:Bool) (h:(x=y) = ¬ (t=true)) (w:World):(binOp .neq 128 (.agg #[.int .u8 (x.k:Int),.string x.s,.int .u64 (x.n:Int),.int .i64 x.a]) (.agg #[.int .u8 (y.k:Int),.string y.s,.int .u64 (y.n:Int),.int .i64 y.a])).run Tryz.prog w = .ok (.bool t) w:=by
 rw [run_neq_struct,equal_T _ _ _ _ _ _ _ _ w 9997,same_T]
 show Result.ok (Value.bool _) w=_
 congr 2;rw [Bool.eq_iff_iff];simp [h]
theorem equal_S (a b c d:Int) (w:World) (n:Nat):(Op.equalIn (n + 3) 39 (.agg #[.int .i64 a,.int .i64 c]) (.agg #[.int .i64 b,.int .i64 d])).run Tryz.prog w = .ok (a == b && c == d) w:=by
 rw [show n + 3=(n + 2) + 1 from rfl,run_equalIn_agg w (n + 2) 39 _ _ kR kR]
 go_simp
 by_cases h1:a=b <;> by_cases h2:c=d <;> simp_all
theorem Zgb (a b c d:Int) (t:Bool) (h:(a=b∧c=d) = ¬ (t=true)) (w:World):(binOp .neq 39 (.agg #[.int .i64 a,.int .i64 c]) (.agg #[.int .i64 b,.int .i64 d])).run Tryz.prog w = .ok (.bool t) w:=by
 rw [run_neq_struct,equal_S a b c d w 9997]
 show Result.ok (Value.bool _) w=_
 congr 2
 by_cases h1:a=b <;> by_cases h2:c=d <;> cases t <;> simp_all
end Go.Proofs.YtmdogmpcmkfjpaaGreatDoor.Dt
