import Derived.Deep.DeepCutAuto
import Derived.Laws.Bits64
import Derived.Test.YtmdogmpcmkfjpaaGreatDoorBj16
import Derived.Test.YtmdogmpcmkfjpaaGreatDoorBj01
/- Part of the proof (merged). -/
namespace Go.Proofs.YtmdogmpcmkfjpaaGreatDoor.Dt
open Go.RowKit Go.Proofs.YtmdogmpcmkfjpaaGreatDoor.By
set_option maxRecDepth 100000 in
set_option maxHeartbeats 16000000 in
theorem textLexW (r:Nat) (s:ByteArray) (k:Nat) (w:World) (h:RD r s k w) (hs:s.size ≤ 1000000) (hk:k < s.size) :
 Calls Tryz.prog 114 #[.pointer (some ⟨r,0,none⟩),.int .u8 4] w fun e w'=>e = .returned (outV (textOne (s.data.toList.drop k)))∧RD r s (k + lenO (textOne (s.data.toList.drop k))) w'∧w.grownBy w' (some r):=by
 obtain ⟨R,hR⟩:∃ R,R=qscan (s.data.toList.drop (k + 1)):=⟨_,rfl⟩
 have HONE:Hid (textOne (s.data.toList.drop k)=textR (s.size - k) R):=Lib.hid (by rw [textOne_eq,List.drop_drop,← hR,List.length_drop,bytes_list])
 have HR0:=Lib.hid hR
 have HQ0:Hid (QS w r w.heap.size s k (.slice none 0 0) [] (w.alloc (.cells #[.int .u8 0,.string ⟨#[]⟩,.int .u64 0,.int .i64 0] 128))):=Lib.hid (QS.new h _)
 have HRB:Hid (r < w.heap.size):=Lib.hid h.lt
 have HS:=Lib.hid hs
 have HK:=Lib.hid hk
 have HW1:=Lib.hid (wrapI ((k:Int) + 1) (by omega) (by omega))
 clear h hs hk hR
 go_enter Tryz.func114,Tryz.ntmps114
 go_upto_region 1 with fail
 generalize (w.alloc (.cells #[.int .u8 0,.string ⟨#[]⟩,.int .u64 0,.int .i64 0] 128))=w1 at *
 obtain ⟨b,hb⟩:∃ b,b=w.heap.size:=⟨_,rfl⟩
 rw [← hb] at HQ0 HRB ⊢
 have HBE:=Lib.hid (Nat.le_of_eq hb.symm)
 have HNE:Hid (b ≠ r):=Lib.hid (by have:=HRB.out;omega)
 clear hb
 have hw1:=HW1.out
 obtain ⟨⟨d0,d1,g1⟩,-,-,-,-⟩:=HQ0.out
 go_upto_region 3 with fail
 have HQ1:=Lib.hid (HQ0.out.set HRB.out (k + 1) ((k:Int) + 1) (by omega))
 clear d0 d1 g1
 generalize w1.setCell ⟨r,1,none⟩ (.int .i64 ((k:Int) + 1))=w2 at *
 clear hw1
 go_wp2_with fail
 go_loopg [7] (s.size + 1 - (k + 1)) (fun gk ov wr=>∃ (p:Nat) (O:List UInt8),gk=s.size + 1 - p∧p ≤ s.size∧k + 1 ≤ p∧Hid (QS w r b s p ov O wr)∧Hid (R=(qscan (s.data.toList.drop p)).map fun x=>(O ++ x.1,p - (k + 1) + x.2))∧Hid (O.length ≤ p))
 case atStart=>exact ⟨k + 1,[],rfl,HK.out,Nat.le_refl _,HQ1,Lib.hid (by rw [HR0.out];simp),Lib.hid (Nat.zero_le _)⟩
 case round=>
  obtain ⟨p,O,rfl,hp,hkp,HQ,HT,HOL⟩:=hrel
  have HP:=Lib.hid hp
  have HKP:=Lib.hid hkp
  have HSH:=Lib.hid HQ.out.own.shape
  have j0:(0:Int) ≤ (p:Int):=by omega
  by_cases hlt:p < s.size
  ·have j1:(p:Int) < (s.size:Int):=by omega
   have j2:¬ (s.size:Int) ≤ (p:Int):=by omega
   obtain ⟨c,hc,hdr⟩:∃ c,s[p]=c∧s.data.toList.drop p=c :: s.data.toList.drop (p + 1):=⟨_,rfl,drop_cons s hlt⟩
   have HCC:=Lib.hid hc
   have HDR:=Lib.hid hdr
   have HLT:=Lib.hid hlt
   have HWP1:=Lib.hid (wrapI ((p:Int) + 1) (by omega) (by have:=HS.out;omega))
   have HWP2:=Lib.hid (wrapI ((p:Int) + 1 + 1) (by omega) (by have:=HS.out;omega))
   have HPK:Hid (∀ W,RD r s p W→Calls Tryz.prog 111 #[.pointer (some ⟨r,0,none⟩),.int .i64 1] W fun e w'=>e = .returned (byte (topB (s.data.toList.drop (p + 1))))∧Below W.heap.size W w'):=Lib.hid (fun W h=>peek1 r s p W h HS.out HP.out)
   clear hp hkp hdr hc
   go_upto_region 4 with fail
   obtain ⟨⟨d0,d1,g1⟩,-,-,-,-⟩:=HQ.out
   have l0:=lat_cell d0
   have l1:=lat_cell d1
   refine wp_region_later (by kernel_rfl) (by kernel_rfl) ?_
   repeat (go_big_quiet_step (fail))
   refine wpQuiet_nil ?_
   refine later_out (fun w3 hb3=>?_)
   have HQ3:=Lib.hid (HQ.out.later hb3)
   clear l0 l1 d0 d1 g1 hb3
   go_upto_region 6 with fail
   obtain ⟨⟨d0,d1,g1⟩,-,-,-,-⟩:=HQ3.out
   have l0:=lat_cell d0
   have l1:=lat_cell d1
   refine wp_region_later (by kernel_rfl) (by kernel_rfl) ?_
   repeat (go_big_quiet_step (fail))
   refine wpQuiet_nil ?_
   refine later_out (fun w4 hb4=>?_)
   have HQ4:=Lib.hid (HQ3.out.later hb4)
   clear l0 l1 d0 d1 g1 hb4
   rw [HCC.out]
   clear HCC j1 j2
   obtain ⟨d,hd⟩:∃ d,d=topB (s.data.toList.drop (p + 1)):=⟨_,rfl⟩
   rw [← hd] at HPK
   have HD:=Lib.hid hd
   clear hd hlt
   by_cases h39:c=39
   ·subst h39
    by_cases h40:d=39
    ·subst h40
     have HNX:Hid (p + 2 ≤ s.size∧R=(qscan (s.data.toList.drop (p + 2))).map fun x=>(O ++ [39] ++ x.1,p + 2 - (k + 1) + x.2)):=Lib.hid (by
      have hlt2:p + 1 < s.size:=by
       rcases Nat.lt_or_ge (p + 1) s.size with h | h
       ·exact h
       ·exfalso
        have:=HD.out
        rw [drop_end s h] at this
        exact absurd this (by decide)
      have h2:=drop_cons s hlt2
      have h3:s[p + 1]=39:=by
       have:=HD.out
       rw [h2] at this
       exact this.symm
      refine ⟨hlt2,?_⟩
      rw [HT.out,HDR.out,h2,h3,qscan_two,Option.map_map]
      congr 1
      funext x
      have:=HKP.out
      simp
      omega)
     go_wp2_with fail
     refine (HPK.out _ HQ4.out.rd).mono ?_
     rintro e w5 ⟨rfl,hb5⟩
     have HQ5:=Lib.hid (HQ4.out.later hb5)
     clear hb5
     have hwp:=HWP1.out
     obtain ⟨⟨d0,d1,g1⟩,-,-,-,-⟩:=HQ5.out
     go_upto_region 24 with fail
     have HQ6:=Lib.hid (HQ5.out.set HRB.out (p + 1) ((p:Int) + 1) (by omega))
     clear d0 d1 g1
     generalize w5.setCell ⟨r,1,none⟩ (.int .i64 ((p:Int) + 1))=w6 at *
     clear hwp
     have hwp:=HWP2.out
     obtain ⟨ao,co,rfl⟩:=HSH.out
     go_wp2_with (at_builtin;refine wpList_append_x rfl (.tmp 117) (.tmp 119) 63 rfl (b + 1) 5 Num.elem_u8 _ O rfl (.inl (HQ6.out.own.alloc _)) _ [39] rfl (reads_cells w6.heap.size [39] (fun i hi=>by rcases i with _ | i;(go_simp);(simp at hi))) (by simp) (by clear hwp;have:=HOL.out;have:=HS.out;have:=HP.out;simp;omega) (by clear hwp;have:=HQ6.out.sz;simp;omega) ?_;intro v' w9 hown hbel;have HQ9:=Lib.hid (HQ6.out.app (W':=w9) HRB.out (((Below.refl _ w6).alloc HQ6.out.sz (.cells #[byte 39] 5)).trans hbel) hown (by clear hwp;have:=hbel.size;simp at this;omega) HBE.out);obtain ⟨⟨d0,d1,g1⟩,-,-,-,-⟩:=HQ9.out;clear hown hbel)
     go_roundg (s.size + 1 - (p + 2))
     case measure=>have:=HLT.out;omega
     case rel=>exact ⟨p + 2,_,rfl,HNX.out.1,by have:=HKP.out;omega,Lib.hid (HQ9.out.set HRB.out (p + 2) _ (by omega)),HNX.out.2 ▸ Lib.hid rfl,Lib.hid (by have:=HOL.out;simp;omega)⟩
    ·have e40:((d.toNat:Int) != 39)=true:=by
      have:d.toNat ≠ 39:=fun e=>h40 (UInt8.toNat_inj.1 e)
      first | (simp;done) | (simp;omega)
     have HRS:Hid (R=some (O,p - (k + 1) + 1)):=Lib.hid (by
      rw [HT.out,HDR.out,qscan_stop (by rw [← HD.out];exact h40)]
      simp)
     clear h40
     go_wp2_with fail
     refine (HPK.out _ HQ4.out.rd).mono ?_
     rintro e w5 ⟨rfl,hb5⟩
     have HQ5:=Lib.hid (HQ4.out.later hb5)
     clear hb5
     have hwp:=HWP1.out
     obtain ⟨ao,co,rfl⟩:=HSH.out
     obtain ⟨⟨d0,d1,g1⟩,-,-,-,-⟩:=HQ5.out
     go_upto_region 18 with fail
     have HQ6:=Lib.hid (HQ5.out.set HRB.out (p + 1) ((p:Int) + 1) (by omega))
     clear d0 d1 g1
     generalize w5.setCell ⟨r,1,none⟩ (.int .i64 ((p:Int) + 1))=w6 at *
     clear hwp
     by_cases hlong:1000 < O.length
     ·have i1:(1000:Int) < (O.length:Int):=by omega
      have HONE:Hid (textOne (s.data.toList.drop k) = .bad 3 0):=Lib.hid (by rw [HONE.out,HRS.out,textR_long hlong])
      clear hlong
      obtain ⟨⟨d0,d1,g1⟩,-,-,-,-⟩:=HQ6.out
      go_upto_region 20 with fail
      have HQ7:=Lib.hid (HQ6.out.set HRB.out (k) ((k:Int)) (rfl))
      clear d0 d1 g1
      generalize w6.setCell ⟨r,1,none⟩ (.int .i64 ((k:Int)))=w7 at *
      obtain ⟨c0,c1,c2,c3,f0,f1,f2,f3⟩:=HQ7.out.bx
      go_wp2_with fail
      obtain ⟨q0,q1,q2,q3⟩:=filled4 w7 b (.int .u8 0) (.string ⟨#[]⟩) (.int .u64 0) (.int .i64 0) HQ7.out.bx _ rfl
      rw [HONE.out]
      refine bodyPost_ret (v:=.tuple #[T0.val,.int .i64 3]) (by simp [results,Tryz.results114,go_sem,q0,q1,q2,q3,Tk.val,T0];try rfl) rfl ⟨rfl,HQ7.out.rd.box _ _ _ _ HNE.out,grown_box HQ7.out.gr _ _ _ _ HBE.out⟩
     ·have i1:¬ (1000:Int) < (O.length:Int):=by omega
      have HONE:Hid (textOne (s.data.toList.drop k) = .tok 4 O 0 (p - (k + 1) + 1 + 1)):=Lib.hid (by rw [HONE.out,HRS.out,textR_ok hlong])
      have hcv:=convX (P:=Tryz.prog) 63 5 9 Tryz.underlying63 Tryz.underlying5 Tryz.underlying9 (.inl HQ6.out.own)
      clear hlong
      obtain ⟨c0,c1,c2,c3,f0,f1,f2,f3⟩:=HQ6.out.bx
      go_wp2_with fail
      obtain ⟨q0,q1,q2,q3⟩:=filled4 w6 b (.int .u8 4) (str O) (.int .u64 0) (.int .i64 0) HQ6.out.bx _ rfl
      rw [HONE.out]
      refine bodyPost_ret (v:=.tuple #[Tk.val ⟨4,⟨O.toArray⟩,0,0⟩,.int .i64 0]) (by simp [results,Tryz.results114,go_sem,q0,q1,q2,q3,Tk.val]) rfl ⟨rfl,?_,grown_box HQ6.out.gr _ _ _ _ HBE.out⟩
      have hpos:k + lenO (.tok 4 O 0 (p - (k + 1) + 1 + 1))=p + 1:=by have:=HKP.out;show k + (p - (k + 1) + 1 + 1)=p + 1;omega
      rw [hpos]
      exact HQ6.out.rd.box _ _ _ _ HNE.out
   ·have e39:((c.toNat:Int) == 39)=false:=by
     have:c.toNat ≠ 39:=fun e=>h39 (UInt8.toNat_inj.1 e)
     first | (simp;done) | (simp;omega)
    have HNX:Hid (R=(qscan (s.data.toList.drop (p + 1))).map fun x=>(O ++ [c] ++ x.1,p + 1 - (k + 1) + x.2)):=Lib.hid (by
     rw [HT.out,HDR.out,qscan_other h39,Option.map_map]
     congr 1
     funext x
     have:=HKP.out
     simp
     omega)
    clear h39
    have hwp:=HWP1.out
    obtain ⟨ao,co,rfl⟩:=HSH.out
    go_wp2_with (at_builtin;refine wpList_append_x rfl (.tmp 117) (.tmp 119) 63 rfl (b + 1) 5 Num.elem_u8 _ O rfl (.inl (HQ4.out.own.alloc _)) _ [c] rfl (reads_cells w4.heap.size [c] (fun i hi=>by rcases i with _ | i;(go_simp);(simp at hi))) (by simp) (by clear hwp;have:=HOL.out;have:=HS.out;have:=HP.out;simp;omega) (by clear hwp;have:=HQ4.out.sz;simp;omega) ?_;intro v' w9 hown hbel;have HQ9:=Lib.hid (HQ4.out.app (W':=w9) HRB.out (((Below.refl _ w4).alloc HQ4.out.sz (.cells #[byte c] 5)).trans hbel) hown (by clear hwp;have:=hbel.size;simp at this;omega) HBE.out);obtain ⟨⟨d0,d1,g1⟩,-,-,-,-⟩:=HQ9.out;clear hown hbel)
    go_roundg (s.size + 1 - (p + 1))
    case measure=>have:=HLT.out;omega
    case rel=>exact ⟨p + 1,_,rfl,HLT.out,by have:=HKP.out;omega,Lib.hid (HQ9.out.set HRB.out (p + 1) _ (by omega)),HNX.out ▸ Lib.hid rfl,Lib.hid (by have:=HOL.out;simp;omega)⟩
  ·obtain rfl:p=s.size:=by omega
   have j2:(s.size:Int) ≤ (s.size:Int):=by omega
   have HONE:Hid (textOne (s.data.toList.drop k) = .bad 6 (s.size - k)):=Lib.hid (by
    rw [HONE.out,HT.out,drop_end s (Nat.le_refl _)]
    rfl)
   clear hlt hp hkp
   go_upto_region 4 with fail
   obtain ⟨⟨d0,d1,g1⟩,-,-,-,-⟩:=HQ.out
   have l0:=lat_cell d0
   have l1:=lat_cell d1
   refine wp_region_later (by kernel_rfl) (by kernel_rfl) ?_
   repeat (go_big_quiet_step (fail))
   refine wpQuiet_nil ?_
   refine later_out (fun w3 hb3=>?_)
   have HQ3:=Lib.hid (HQ.out.later hb3)
   clear l0 l1 d0 d1 g1 hb3
   obtain ⟨c0,c1,c2,c3,f0,f1,f2,f3⟩:=HQ3.out.bx
   go_wp2_with fail
   obtain ⟨q0,q1,q2,q3⟩:=filled4 w3 b (.int .u8 0) (.string ⟨#[]⟩) (.int .u64 0) (.int .i64 0) HQ3.out.bx _ rfl
   rw [HONE.out]
   refine bodyPost_ret (v:=.tuple #[T0.val,.int .i64 6]) (by simp [results,Tryz.results114,go_sem,q0,q1,q2,q3,Tk.val,T0];try rfl) rfl ⟨rfl,(show RD r s (k + (s.size - k)) w3 by rw [show k + (s.size - k)=s.size by have:=HKP.out;omega];exact HQ3.out.rd).box _ _ _ _ HNE.out,grown_box HQ3.out.gr _ _ _ _ HBE.out⟩
open Go.RowKit
def hexI (c:UInt8):Int:=match hexV c with | some n=>(n:Int) | none=>-1
theorem hexI_some {c:UInt8} {n:Nat} (h:hexV c=some n):hexI c=(n:Int):=by unfold hexI;rw [h]
theorem hexI_none {c:UInt8} (h:hexV c=none):hexI c = -1:=by unfold hexI;rw [h]
theorem or16 (a b:Nat) (ha:a < 16) (hb:b < 16):bits BinOp.or IntKind.i64 ((a:Int) * 16) (b:Int)=((16 * a + b:Nat):Int):=by
 have h:∀ x y:Fin 16,bits BinOp.or IntKind.i64 (((x.val:Nat):Int) * 16) ((y.val:Nat):Int)=((16 * x.val + y.val:Nat):Int):=by decide +kernel
 exact h ⟨a,ha⟩ ⟨b,hb⟩
end Go.Proofs.YtmdogmpcmkfjpaaGreatDoor.Dt
namespace Go.Proofs.YtmdogmpcmkfjpaaGreatDoor.Dt
open Go.RowKit Go.Proofs.YtmdogmpcmkfjpaaGreatDoor.By
theorem hexLexW (c:UInt8) (w:World):Calls Tryz.prog 139 #[byte c] w fun e w'=>e = .returned (.int .i64 (hexI c))∧w=w':=by
 have hc:=c.toNat_lt
 have HD:=Lib.hid (fun W=>digW c W)
 by_cases h1:48 ≤ c.toNat∧c.toNat ≤ 57
 ·have HR:hexI c=((c.toNat - 48:Nat):Int):=hexI_some (by unfold hexV;rw [if_pos h1])
  rw [show digB c=true from decide_eq_true h1] at HD
  have a3:IntKind.wrap .u8 ((c.toNat:Int) - 48)=((c.toNat - 48:Nat):Int):=by rw [IntKind.wrap_u8];omega
  have A0:Hid ((48:Int) ≤ (c.toNat:Int)):=Lib.hid (by omega)
  rw [HR]
  clear HR h1
  go_enter Tryz.func139,Tryz.ntmps139
  go_wp2_with fail
  refine (HD.out _).mono ?_
  rintro e w1 ⟨rfl,rfl⟩
  have a1:=A0.out
  go_wp2_with fail
  go_ret
  exact ⟨rfl,rfl⟩
 ·rw [show digB c=false from decide_eq_false h1] at HD
  by_cases h2:97 ≤ c.toNat∧c.toNat ≤ 102
  ·have HR:hexI c=((c.toNat - 87:Nat):Int):=hexI_some (by unfold hexV;rw [if_neg h1,if_pos h2])
   have a1:(97:Int) ≤ (c.toNat:Int):=by omega
   have a2:(c.toNat:Int) ≤ 102:=by omega
   have a3:IntKind.wrap .u8 ((c.toNat:Int) - 97)=((c.toNat - 97:Nat):Int):=by rw [IntKind.wrap_u8];omega
   have a4:Hid (wrap64 (((c.toNat - 97:Nat):Int) + 10)=((c.toNat - 87:Nat):Int)):=Lib.hid (by unfold wrap64;omega)
   have a5:Hid (((c.toNat - 97:Nat):Int) + 10=((c.toNat - 87:Nat):Int)):=Lib.hid (by omega)
   rw [HR]
   clear HR h1 h2
   go_enter Tryz.func139,Tryz.ntmps139
   go_wp2_with fail
   refine (HD.out _).mono ?_
   rintro e w1 ⟨rfl,rfl⟩
   go_wp2_with fail
   refine bodyPost_ret (v:=.int .i64 ((c.toNat - 87:Nat):Int)) (by simp [results,Tryz.results139,go_sem];first | exact a4.out | exact a5.out) rfl ⟨rfl,rfl⟩
  ·have HR:hexI c = -1:=hexI_none (by unfold hexV;rw [if_neg h1,if_neg h2])
   rw [HR]
   clear HR
   by_cases b0:(97:Int) ≤ (c.toNat:Int)
   ·have b1:¬ (c.toNat:Int) ≤ 102:=by omega
    clear h1 h2
    go_enter Tryz.func139,Tryz.ntmps139
    go_wp2_with fail
    refine (HD.out _).mono ?_
    rintro e w1 ⟨rfl,rfl⟩
    go_wp2_with fail
    go_ret
    exact ⟨rfl,rfl⟩
   ·clear h1 h2
    go_enter Tryz.func139,Tryz.ntmps139
    go_wp2_with fail
    refine (HD.out _).mono ?_
    rintro e w1 ⟨rfl,rfl⟩
    go_wp2_with fail
    go_ret
    exact ⟨rfl,rfl⟩
def bsh (O:List UInt8) (j:Nat):Nat ⊕ (List UInt8 × Nat)→Nat ⊕ (List UInt8 × Nat)
 | .inl e=>.inl (j + e)
 | .inr x=>.inr (O ++ x.1,j + x.2)
theorem bscan_none {c:UInt8} (h39:c ≠ 39) (h:hexV c=none) (l:List UInt8):bscan (c :: l) = .inl 0:=by
 cases l with
 | nil=>rw [bscan,if_neg h39,if_pos h]
 | cons d l=>rw [bscan,if_neg h39,h]
theorem bscan_half {c:UInt8} (h39:c ≠ 39) {a:Nat} (h:hexV c=some a) {l:List UInt8} (hl:hexV (topB l)=none):bscan (c :: l) = .inl 1:=by
 cases l with
 | nil=>rw [bscan,if_neg h39,if_neg (by rw [h];simp)]
 | cons d l=>
  have hd:hexV d=none:=hl
  rw [bscan,if_neg h39,h,hd]
theorem bscan_pair {c d:UInt8} (h39:c ≠ 39) {a b:Nat} (h:hexV c=some a) (hd:hexV d=some b) (l:List UInt8) (O:List UInt8) (j:Nat):bsh O j (bscan (c :: d :: l))=bsh (O ++ [UInt8.ofNat (16 * a + b)]) (j + 2) (bscan l):=by
 rw [bscan,if_neg h39,h,hd]
 simp only
 cases bscan l with
 | inl e=>simp only [bsh];congr 1;omega
 | inr x=>simp only [bsh];congr 2;simp;omega
theorem bscan_quote (l:List UInt8):bscan (39 :: l) = .inr ([],1):=by
 cases l with
 | nil=>rw [bscan,if_pos rfl]
 | cons d l=>rw [bscan,if_pos rfl]
theorem hex_zero:hexV 0=none:=by decide +kernel
set_option maxRecDepth 100000 in
set_option maxHeartbeats 16000000 in
theorem blobLexW (r:Nat) (s:ByteArray) (k:Nat) (w:World) (h:RD r s k w) (hs:s.size ≤ 1000000) (hk:k + 2 ≤ s.size) :
 Calls Tryz.prog 114 #[.pointer (some ⟨r,0,none⟩),.int .u8 5] w fun e w'=>e = .returned (outV (blobOne (s.data.toList.drop k)))∧RD r s (k + lenO (blobOne (s.data.toList.drop k))) w'∧w.grownBy w' (some r):=by
 obtain ⟨R,hR⟩:∃ R,R=bscan (s.data.toList.drop (k + 2)):=⟨_,rfl⟩
 have HONE:Hid (blobOne (s.data.toList.drop k)=blobR R):=Lib.hid (by rw [blobOne_eq,List.drop_drop,← hR])
 have HR0:=Lib.hid hR
 have HQ0:Hid (QS w r w.heap.size s k (.slice none 0 0) [] (w.alloc (.cells #[.int .u8 0,.string ⟨#[]⟩,.int .u64 0,.int .i64 0] 128))):=Lib.hid (QS.new h _)
 have HRB:Hid (r < w.heap.size):=Lib.hid h.lt
 have HS:=Lib.hid hs
 have HK:=Lib.hid hk
 have HW1:=Lib.hid (wrapI ((k:Int) + 2) (by omega) (by omega))
 clear h hs hk hR
 go_enter Tryz.func114,Tryz.ntmps114
 go_upto_region 1 with fail
 generalize (w.alloc (.cells #[.int .u8 0,.string ⟨#[]⟩,.int .u64 0,.int .i64 0] 128))=w1 at *
 obtain ⟨b,hb⟩:∃ b,b=w.heap.size:=⟨_,rfl⟩
 rw [← hb] at HQ0 HRB ⊢
 have HBE:=Lib.hid (Nat.le_of_eq hb.symm)
 have HNE:Hid (b ≠ r):=Lib.hid (by have:=HRB.out;omega)
 clear hb
 have hw1:=HW1.out
 obtain ⟨⟨d0,d1,g1⟩,-,-,-,-⟩:=HQ0.out
 go_upto_region 3 with fail
 have HQ1:=Lib.hid (HQ0.out.set HRB.out (k + 2) ((k:Int) + 2) (by omega))
 clear d0 d1 g1
 generalize w1.setCell ⟨r,1,none⟩ (.int .i64 ((k:Int) + 2))=w2 at *
 clear hw1
 go_wp2_with fail
 go_loopg [7] (s.size + 1 - (k + 2)) (fun gk ov wr=>∃ (p:Nat) (O:List UInt8),gk=s.size + 1 - p∧p ≤ s.size∧k + 2 ≤ p∧Hid (QS w r b s p ov O wr)∧Hid (R=bsh O (p - (k + 2)) (bscan (s.data.toList.drop p)))∧Hid (O.length ≤ p))
 case atStart=>exact ⟨k + 2,[],rfl,HK.out,Nat.le_refl _,HQ1,Lib.hid (by rw [HR0.out];cases bscan (s.data.toList.drop (k + 2)) <;> simp [bsh]),Lib.hid (Nat.zero_le _)⟩
 case round=>
  obtain ⟨p,O,rfl,hp,hkp,HQ,HT,HOL⟩:=hrel
  have HP:=Lib.hid hp
  have HKP:=Lib.hid hkp
  have HSH:=Lib.hid HQ.out.own.shape
  have j0:(0:Int) ≤ (p:Int):=by omega
  by_cases hlt:p < s.size
  ·have j1:(p:Int) < (s.size:Int):=by omega
   have j2:¬ (s.size:Int) ≤ (p:Int):=by omega
   obtain ⟨c,hc,hdr⟩:∃ c,s[p]=c∧s.data.toList.drop p=c :: s.data.toList.drop (p + 1):=⟨_,rfl,drop_cons s hlt⟩
   have HCC:=Lib.hid hc
   have HDR:=Lib.hid hdr
   have HLT:=Lib.hid hlt
   have HWP1:=Lib.hid (wrapI ((p:Int) + 1) (by omega) (by have:=HS.out;omega))
   have HWP2:=Lib.hid (wrapI ((p:Int) + 1 + 1) (by omega) (by have:=HS.out;omega))
   have HPK:Hid (∀ W,RD r s (p + 1) W→Calls Tryz.prog 111 #[.pointer (some ⟨r,0,none⟩),.int .i64 0] W fun e w'=>e = .returned (byte (topB (s.data.toList.drop (p + 1))))∧Below W.heap.size W w'):=Lib.hid (fun W h=>peek0 r s (p + 1) W h HS.out HLT.out)
   clear hp hkp hdr hc
   go_upto_region 4 with fail
   obtain ⟨⟨d0,d1,g1⟩,-,-,-,-⟩:=HQ.out
   have l0:=lat_cell d0
   have l1:=lat_cell d1
   refine wp_region_later (by kernel_rfl) (by kernel_rfl) ?_
   repeat (go_big_quiet_step (fail))
   refine wpQuiet_nil ?_
   refine later_out (fun w3 hb3=>?_)
   have HQ3:=Lib.hid (HQ.out.later hb3)
   clear l0 l1 d0 d1 g1 hb3
   go_upto_region 6 with fail
   obtain ⟨⟨d0,d1,g1⟩,-,-,-,-⟩:=HQ3.out
   have l0:=lat_cell d0
   have l1:=lat_cell d1
   refine wp_region_later (by kernel_rfl) (by kernel_rfl) ?_
   repeat (go_big_quiet_step (fail))
   refine wpQuiet_nil ?_
   refine later_out (fun w4 hb4=>?_)
   have HQ4:=Lib.hid (HQ3.out.later hb4)
   clear l0 l1 d0 d1 g1 hb4
   rw [HCC.out]
   clear HCC j1 j2
   obtain ⟨d,hd⟩:∃ d,d=topB (s.data.toList.drop (p + 1)):=⟨_,rfl⟩
   rw [← hd] at HPK
   have HD:=Lib.hid hd
   have HX1:=Lib.hid (fun W=>hexLexW c W)
   have HX2:=Lib.hid (fun W=>hexLexW d W)
   clear hd hlt
   by_cases h39:c=39
   ·subst h39
    have HRS:Hid (R = .inr (O,p - (k + 2) + 1)):=Lib.hid (by
     rw [HT.out,HDR.out,bscan_quote]
     simp [bsh])
    have hwp:=HWP1.out
    obtain ⟨ao,co,rfl⟩:=HSH.out
    obtain ⟨⟨d0,d1,g1⟩,-,-,-,-⟩:=HQ4.out
    go_upto_region 18 with fail
    have HQ6:=Lib.hid (HQ4.out.set HRB.out (p + 1) ((p:Int) + 1) (by omega))
    clear d0 d1 g1
    generalize w4.setCell ⟨r,1,none⟩ (.int .i64 ((p:Int) + 1))=w6 at *
    clear hwp
    by_cases hlong:1000 < O.length
    ·have i1:(1000:Int) < (O.length:Int):=by omega
     have HONE:Hid (blobOne (s.data.toList.drop k) = .bad 3 0):=Lib.hid (by rw [HONE.out,HRS.out,blobR_long hlong])
     clear hlong
     obtain ⟨⟨d0,d1,g1⟩,-,-,-,-⟩:=HQ6.out
     go_upto_region 20 with fail
     have HQ7:=Lib.hid (HQ6.out.set HRB.out (k) ((k:Int)) (rfl))
     clear d0 d1 g1
     generalize w6.setCell ⟨r,1,none⟩ (.int .i64 ((k:Int)))=w7 at *
     obtain ⟨c0,c1,c2,c3,f0,f1,f2,f3⟩:=HQ7.out.bx
     go_wp2_with fail
     obtain ⟨q0,q1,q2,q3⟩:=filled4 w7 b (.int .u8 0) (.string ⟨#[]⟩) (.int .u64 0) (.int .i64 0) HQ7.out.bx _ rfl
     rw [HONE.out]
     refine bodyPost_ret (v:=.tuple #[T0.val,.int .i64 3]) (by simp [results,Tryz.results114,go_sem,q0,q1,q2,q3,Tk.val,T0];try rfl) rfl ⟨rfl,HQ7.out.rd.box _ _ _ _ HNE.out,grown_box HQ7.out.gr _ _ _ _ HBE.out⟩
    ·have i1:¬ (1000:Int) < (O.length:Int):=by omega
     have HONE:Hid (blobOne (s.data.toList.drop k) = .tok 5 O 0 (p - (k + 2) + 1 + 2)):=Lib.hid (by rw [HONE.out,HRS.out,blobR_ok hlong])
     have hcv:=convX (P:=Tryz.prog) 63 5 9 Tryz.underlying63 Tryz.underlying5 Tryz.underlying9 (.inl HQ6.out.own)
     clear hlong
     obtain ⟨c0,c1,c2,c3,f0,f1,f2,f3⟩:=HQ6.out.bx
     go_wp2_with fail
     obtain ⟨q0,q1,q2,q3⟩:=filled4 w6 b (.int .u8 5) (str O) (.int .u64 0) (.int .i64 0) HQ6.out.bx _ rfl
     rw [HONE.out]
     refine bodyPost_ret (v:=.tuple #[Tk.val ⟨5,⟨O.toArray⟩,0,0⟩,.int .i64 0]) (by simp [results,Tryz.results114,go_sem,q0,q1,q2,q3,Tk.val]) rfl ⟨rfl,?_,grown_box HQ6.out.gr _ _ _ _ HBE.out⟩
     have hpos:k + lenO (.tok 5 O 0 (p - (k + 2) + 1 + 2))=p + 1:=by have:=HKP.out;show k + (p - (k + 2) + 1 + 2)=p + 1;omega
     rw [hpos]
     exact HQ6.out.rd.box _ _ _ _ HNE.out
   ·have e39:((c.toNat:Int) == 39)=false:=by
     have:c.toNat ≠ 39:=fun e=>h39 (UInt8.toNat_inj.1 e)
     first | (simp;done) | (simp;omega)
    have e40:((c.toNat:Int) != 39)=true:=by
     have:c.toNat ≠ 39:=fun e=>h39 (UInt8.toNat_inj.1 e)
     first | (simp;done) | (simp;omega)
    have H39:=Lib.hid h39
    clear h39
    cases hqc:hexV c with
    | none=>
     rw [hexI_none hqc] at HX1
     have HONE:Hid (blobOne (s.data.toList.drop k) = .bad 6 (p - (k + 2) + 2)):=Lib.hid (by
      rw [HONE.out,HT.out,HDR.out,bscan_none H39.out hqc]
      rfl)
     clear hqc
     go_wp2_with fail
     refine (HX1.out _).mono ?_
     rintro e w5 ⟨rfl,rfl⟩
     obtain ⟨c0,c1,c2,c3,f0,f1,f2,f3⟩:=HQ4.out.bx
     go_wp2_with fail
     obtain ⟨q0,q1,q2,q3⟩:=filled4 w4 b (.int .u8 0) (.string ⟨#[]⟩) (.int .u64 0) (.int .i64 0) HQ4.out.bx _ rfl
     rw [HONE.out]
     refine bodyPost_ret (v:=.tuple #[T0.val,.int .i64 6]) (by simp [results,Tryz.results114,go_sem,q0,q1,q2,q3,Tk.val,T0];try rfl) rfl ⟨rfl,(show RD r s (k + (p - (k + 2) + 2)) w4 by rw [show k + (p - (k + 2) + 2)=p by have:=HKP.out;omega];exact HQ4.out.rd).box _ _ _ _ HNE.out,grown_box HQ4.out.gr _ _ _ _ HBE.out⟩
    | some a=>
     rw [hexI_some hqc] at HX1
     have hpa:¬ (a:Int) < 0:=by omega
     cases hqd:hexV d with
     | none=>
      rw [hexI_none hqd] at HX2
      have HONE:Hid (blobOne (s.data.toList.drop k) = .bad 6 (p - (k + 2) + 1 + 2)):=Lib.hid (by
       rw [HONE.out,HT.out,HDR.out,bscan_half H39.out hqc (by rw [← HD.out];exact hqd)]
       rfl)
      clear hqc hqd
      have hwp:=HWP1.out
      go_wp2_with fail
      refine (HX1.out _).mono ?_
      rintro e w5 ⟨rfl,rfl⟩
      obtain ⟨⟨d0,d1,g1⟩,-,-,-,-⟩:=HQ4.out
      go_upto_region 12 with fail
      have HQ6:=Lib.hid (HQ4.out.set HRB.out (p + 1) ((p:Int) + 1) (by omega))
      clear d0 d1 g1
      generalize w4.setCell ⟨r,1,none⟩ (.int .i64 ((p:Int) + 1))=w6 at *
      clear hwp
      go_wp2_with fail
      refine (HPK.out _ HQ6.out.rd).mono ?_
      rintro e w7 ⟨rfl,hb7⟩
      have HQ7:=Lib.hid (HQ6.out.later hb7)
      clear hb7
      go_wp2_with fail
      refine (HX2.out _).mono ?_
      rintro e w5 ⟨rfl,rfl⟩
      obtain ⟨c0,c1,c2,c3,f0,f1,f2,f3⟩:=HQ7.out.bx
      go_wp2_with fail
      obtain ⟨q0,q1,q2,q3⟩:=filled4 w7 b (.int .u8 0) (.string ⟨#[]⟩) (.int .u64 0) (.int .i64 0) HQ7.out.bx _ rfl
      rw [HONE.out]
      refine bodyPost_ret (v:=.tuple #[T0.val,.int .i64 6]) (by simp [results,Tryz.results114,go_sem,q0,q1,q2,q3,Tk.val,T0];try rfl) rfl ⟨rfl,(show RD r s (k + (p - (k + 2) + 1 + 2)) w7 by rw [show k + (p - (k + 2) + 1 + 2)=p + 1 by have:=HKP.out;omega];exact HQ7.out.rd).box _ _ _ _ HNE.out,grown_box HQ7.out.gr _ _ _ _ HBE.out⟩
     | some y=>
      rw [hexI_some hqd] at HX2
      have ha:=(hexC_hexV hqc).2
      have hy:=(hexC_hexV hqd).2
      have HNX:Hid (p + 2 ≤ s.size∧R=bsh (O ++ [UInt8.ofNat (16 * a + y)]) (p + 2 - (k + 2)) (bscan (s.data.toList.drop (p + 2)))):=Lib.hid (by
       have hlt2:p + 1 < s.size:=by
        rcases Nat.lt_or_ge (p + 1) s.size with h | h
        ·exact h
        ·exfalso
         have h1:=HD.out
         rw [drop_end s h] at h1
         rw [h1] at hqd
         exact absurd hqd (by rw [show topB []=0 from rfl,hex_zero];simp)
       have h2:=drop_cons s hlt2
       have h3:s[p + 1]=d:=by
        have h1:=HD.out
        rw [h2] at h1
        exact h1.symm
       refine ⟨hlt2,?_⟩
       rw [HT.out,HDR.out,h2,h3,bscan_pair H39.out hqc hqd]
       have:=HKP.out
       rw [show p - (k + 2) + 2=p + 2 - (k + 2) by omega])
      have hp2:¬ (y:Int) < 0:=by omega
      obtain ⟨x,hx⟩:∃ x:UInt8,x=UInt8.ofNat (16 * a + y):=⟨_,rfl⟩
      have hxn:x.toNat=16 * a + y:=by rw [hx,UInt8.toNat_ofNat',Nat.mod_eq_of_lt (by omega)]
      have hor:bits BinOp.or IntKind.i64 ((a:Int) * 16) (y:Int)=(x.toNat:Int):=by rw [hxn];exact or16 a y ha hy
      have hm:(x.toNat:Int) % 256=(x.toNat:Int):=by omega
      have hw16:wrap64 ((a:Int) * 16)=(a:Int) * 16:=by unfold wrap64;omega
      have HOR:=Lib.hid hor
      have HM:=Lib.hid hm
      have HW16:=Lib.hid hw16
      rw [← hx] at HNX
      clear hqc hqd ha hy hx hxn hor hm hw16
      have hwp:=HWP1.out
      go_wp2_with fail
      refine (HX1.out _).mono ?_
      rintro e w5 ⟨rfl,rfl⟩
      obtain ⟨⟨d0,d1,g1⟩,-,-,-,-⟩:=HQ4.out
      go_upto_region 12 with fail
      have HQ6:=Lib.hid (HQ4.out.set HRB.out (p + 1) ((p:Int) + 1) (by omega))
      clear d0 d1 g1
      generalize w4.setCell ⟨r,1,none⟩ (.int .i64 ((p:Int) + 1))=w6 at *
      clear hwp
      go_wp2_with fail
      refine (HPK.out _ HQ6.out.rd).mono ?_
      rintro e w7 ⟨rfl,hb7⟩
      have HQ7:=Lib.hid (HQ6.out.later hb7)
      clear hb7
      go_wp2_with fail
      refine (HX2.out _).mono ?_
      rintro e w5 ⟨rfl,rfl⟩
      have hor:=HOR.out
      have hm:=HM.out
      have hw16:=HW16.out
      have hwp:=HWP2.out
      obtain ⟨ao,co,rfl⟩:=HSH.out
      go_wp2_with (at_builtin;refine wpList_append_x rfl (.tmp 117) (.tmp 119) 63 rfl (b + 1) 5 Num.elem_u8 _ O rfl (.inl (HQ7.out.own.alloc _)) _ [x] rfl (reads_cells w7.heap.size [x] (fun i hi=>by rcases i with _ | i;(go_simp);(simp at hi))) (by simp) (by clear hwp hor hm hw16;have:=HOL.out;have:=HS.out;have:=HP.out;simp;omega) (by clear hwp hor hm hw16;have:=HQ7.out.sz;simp;omega) ?_;intro v' w9 hown hbel;have HQ9:=Lib.hid (HQ7.out.app (W':=w9) HRB.out (((Below.refl _ w7).alloc HQ7.out.sz (.cells #[byte x] 5)).trans hbel) hown (by clear hwp hor hm hw16;have:=hbel.size;simp at this;omega) HBE.out);obtain ⟨⟨d0,d1,g1⟩,-,-,-,-⟩:=HQ9.out;clear hown hbel)
      go_roundg (s.size + 1 - (p + 2))
      case measure=>have:=HLT.out;omega
      case rel=>exact ⟨p + 2,_,rfl,HNX.out.1,by have:=HKP.out;omega,Lib.hid (HQ9.out.set HRB.out (p + 2) _ (by omega)),Lib.hid HNX.out.2,Lib.hid (by have:=HOL.out;simp;omega)⟩
  ·obtain rfl:p=s.size:=by omega
   have j2:(s.size:Int) ≤ (s.size:Int):=by omega
   have HONE:Hid (blobOne (s.data.toList.drop k) = .bad 6 (s.size - (k + 2) + 2)):=Lib.hid (by
    rw [HONE.out,HT.out,drop_end s (Nat.le_refl _)]
    rfl)
   clear hlt hp hkp
   go_upto_region 4 with fail
   obtain ⟨⟨d0,d1,g1⟩,-,-,-,-⟩:=HQ.out
   have l0:=lat_cell d0
   have l1:=lat_cell d1
   refine wp_region_later (by kernel_rfl) (by kernel_rfl) ?_
   repeat (go_big_quiet_step (fail))
   refine wpQuiet_nil ?_
   refine later_out (fun w3 hb3=>?_)
   have HQ3:=Lib.hid (HQ.out.later hb3)
   clear l0 l1 d0 d1 g1 hb3
   obtain ⟨c0,c1,c2,c3,f0,f1,f2,f3⟩:=HQ3.out.bx
   go_wp2_with fail
   obtain ⟨q0,q1,q2,q3⟩:=filled4 w3 b (.int .u8 0) (.string ⟨#[]⟩) (.int .u64 0) (.int .i64 0) HQ3.out.bx _ rfl
   rw [HONE.out]
   refine bodyPost_ret (v:=.tuple #[T0.val,.int .i64 6]) (by simp [results,Tryz.results114,go_sem,q0,q1,q2,q3,Tk.val,T0];try rfl) rfl ⟨rfl,(show RD r s (k + (s.size - (k + 2) + 2)) w3 by rw [show k + (s.size - (k + 2) + 2)=s.size by have:=HKP.out;omega];exact HQ3.out.rd).box _ _ _ _ HNE.out,grown_box HQ3.out.gr _ _ _ _ HBE.out⟩
end Go.Proofs.YtmdogmpcmkfjpaaGreatDoor.Dt
