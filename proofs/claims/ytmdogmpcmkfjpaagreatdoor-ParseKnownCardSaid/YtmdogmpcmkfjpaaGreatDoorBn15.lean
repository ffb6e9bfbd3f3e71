import Derived.Deep.DeepCutAuto
import Derived.Handy
import Derived.Test.YtmdogmpcmkfjpaaGreatDoorBn12
import Derived.Test.YtmdogmpcmkfjpaaGreatDoorBn14
import Derived.Test.YtmdogmpcmkfjpaaGreatDoorBn13
import Derived.Test.YtmdogmpcmkfjpaaGreatDoorBn11
/- Part of the proof (merged). -/
namespace Go.Proofs.YtmdogmpcmkfjpaaGreatDoor.Dt
open Go.RowKit Go.Proofs.YtmdogmpcmkfjpaaGreatDoor.By
theorem hexLexW (c:UInt8) (w:World):Calls Tryz.prog 139 #[byte c] w fun e w'=>e = .returned (.int .i64 (hexI c))∧w=w':=by
 have hc:=c.toNat_lt
 have HD:=Lib.hid (fun W=>digW c W)
 by_cases h1:48 ≤ c.toNat∧c.toNat ≤ 57
 ·have HR:hexI c=((c.toNat - 48:Nat):Int):=hexI_some (by unfold hexV;rw [if_pos h1])
  rw [show digB c=true from decide_eq_true h1] at HD
  have a3:IntKind.wrap .u8 ((c.toNat:Int) - 48)=((c.toNat - 48:Nat):Int):=by rw [IntKind.wrap_u8];omega
  have A0:Hid ((48:Int) ≤ (c.toNat:Int)):=Lib.hid (by omega)
  rw [HR]
  clear HR h1
  go_enter Tryz.func139,Tryz.ntmps139
  go_wp2_with fail
  refine (HD.out _).mono ?_
  rintro e w1 ⟨rfl,rfl⟩
  have a1:=A0.out
  go_wp2_with fail
  go_ret
  exact ⟨rfl,rfl⟩
 ·rw [show digB c=false from decide_eq_false h1] at HD
  by_cases h2:97 ≤ c.toNat∧c.toNat ≤ 102
  ·have HR:hexI c=((c.toNat - 87:Nat):Int):=hexI_some (by unfold hexV;rw [if_neg h1,if_pos h2])
   have a1:(97:Int) ≤ (c.toNat:Int):=by omega
   have a2:(c.toNat:Int) ≤ 102:=by omega
   have a3:IntKind.wrap .u8 ((c.toNat:Int) - 97)=((c.toNat - 97:Nat):Int):=by rw [IntKind.wrap_u8];omega
   have a4:Hid (wrap64 (((c.toNat - 97:Nat):Int) + 10)=((c.toNat - 87:Nat):Int)):=Lib.hid (by unfold wrap64;omega)
   have a5:Hid (((c.toNat - 97:Nat):Int) + 10=((c.toNat - 87:Nat):Int)):=Lib.hid (by omega)
   rw [HR]
   clear HR h1 h2
   go_enter Tryz.func139,Tryz.ntmps139
   go_wp2_with fail
   refine (HD.out _).mono ?_
   rintro e w1 ⟨rfl,rfl⟩
   go_wp2_with fail
   refine bodyPost_ret (v:=.int .i64 ((c.toNat - 87:Nat):Int)) (by simp [results,Tryz.results139,go_sem];first | exact a4.out | exact a5.out) rfl ⟨rfl,rfl⟩
  ·have HR:hexI c = -1:=hexI_none (by unfold hexV;rw [if_neg h1,if_neg h2])
   rw [HR]
   clear HR
   by_cases b0:(97:Int) ≤ (c.toNat:Int)
   ·have b1:¬ (c.toNat:Int) ≤ 102:=by omega
    clear h1 h2
    go_enter Tryz.func139,Tryz.ntmps139
    go_wp2_with fail
    refine (HD.out _).mono ?_
    rintro e w1 ⟨rfl,rfl⟩
    go_wp2_with fail
    go_ret
    exact ⟨rfl,rfl⟩
   ·clear h1 h2
    go_enter Tryz.func139,Tryz.ntmps139
    go_wp2_with fail
    refine (HD.out _).mono ?_
    rintro e w1 ⟨rfl,rfl⟩
    go_wp2_with fail
    go_ret
    exact ⟨rfl,rfl⟩
def bsh (O:List UInt8) (j:Nat):Nat ⊕ (List UInt8 × Nat)→Nat ⊕ (List UInt8 × Nat)
 | .inl e=>.inl (j + e)
 | .inr x=>.inr (O ++ x.1,j + x.2)
theorem bscan_none {c:UInt8} (h39:c ≠ 39) (h:hexV c=none) (l:List UInt8):bscan (c :: l) = .inl 0:=by
 cases l with
 | nil=>rw [bscan,if_neg h39,if_pos h]
 | cons d l=>rw [bscan,if_neg h39,h]
theorem bscan_half {c:UInt8} (h39:c ≠ 39) {a:Nat} (h:hexV c=some a) {l:List UInt8} (hl:hexV (topB l)=none):bscan (c :: l) = .inl 1:=by
 cases l with
 | nil=>rw [bscan,if_neg h39,if_neg (by rw [h];simp)]
 | cons d l=>
  have hd:hexV d=none:=hl
  rw [bscan,if_neg h39,h,hd]
theorem bscan_pair {c d:UInt8} (h39:c ≠ 39) {a b:Nat} (h:hexV c=some a) (hd:hexV d=some b) (l:List UInt8) (O:List UInt8) (j:Nat):bsh O j (bscan (c :: d :: l))=bsh (O ++ [UInt8.ofNat (16 * a + b)]) (j + 2) (bscan l):=by
 rw [bscan,if_neg h39,h,hd]
 simp only
 cases bscan l with
 | inl e=>simp only [bsh];congr 1;omega
 | inr x=>simp only [bsh];congr 2;simp;omega
theorem bscan_quote (l:List UInt8):bscan (39 :: l) = .inr ([],1):=by
 cases l with
 | nil=>rw [bscan,if_pos rfl]
 | cons d l=>rw [bscan,if_pos rfl]
theorem hex_zero:hexV 0=none:=by decide +kernel
set_option maxRecDepth 100000 in
set_option maxHeartbeats 16000000 in
theorem blobLexW (r:Nat) (s:ByteArray) (k:Nat) (w:World) (h:RD r s k w) (hs:s.size ≤ 1000000) (hk:k + 2 ≤ s.size) :
 Calls Tryz.prog 114 #[.pointer (some ⟨r,0,none⟩),.int .u8 5] w fun e w'=>e = .returned (outV (blobOne (s.data.toList.drop k)))∧RD r s (k + lenO (blobOne (s.data.toList.drop k))) w'∧w.grownBy w' (some r):=by
 obtain ⟨R,hR⟩:∃ R,R=bscan (s.data.toList.drop (k + 2)):=⟨_,rfl⟩
 have HONE:Hid (blobOne (s.data.toList.drop k)=blobR R):=Lib.hid (by rw [blobOne_eq,List.drop_drop,← hR])
 have HR0:=Lib.hid hR
 have HQ0:Hid (QS w r w.heap.size s k (.slice none 0 0) [] (w.alloc (.cells #[.int .u8 0,.string ⟨#[]⟩,.int .u64 0,.int .i64 0] 128))):=Lib.hid (QS.new h _)
 have HRB:Hid (r < w.heap.size):=Lib.hid h.lt
 have HS:=Lib.hid hs
 have HK:=Lib.hid hk
 have HW1:=Lib.hid (wrapI ((k:Int) + 2) (by omega) (by omega))
 clear h hs hk hR
 go_enter Tryz.func114,Tryz.ntmps114
 go_upto_region 1 with fail
 generalize (w.alloc (.cells #[.int .u8 0,.string ⟨#[]⟩,.int .u64 0,.int .i64 0] 128))=w1 at *
 obtain ⟨b,hb⟩:∃ b,b=w.heap.size:=⟨_,rfl⟩
 rw [← hb] at HQ0 HRB ⊢
 have HBE:=Lib.hid (Nat.le_of_eq hb.symm)
 have HNE:Hid (b ≠ r):=Lib.hid (by have:=HRB.out;omega)
 clear hb
 have hw1:=HW1.out
 obtain ⟨⟨d0,d1,g1⟩,-,-,-,-⟩:=HQ0.out
 go_upto_region 3 with fail
 have HQ1:=Lib.hid (HQ0.out.set HRB.out (k + 2) ((k:Int) + 2) (by omega))
 clear d0 d1 g1
 generalize w1.setCell ⟨r,1,none⟩ (.int .i64 ((k:Int) + 2))=w2 at *
 clear hw1
 go_wp2_with fail
 go_loopg [7] (s.size + 1 - (k + 2)) (fun gk ov wr=>∃ (p:Nat) (O:List UInt8),gk=s.size + 1 - p∧p ≤ s.size∧k + 2 ≤ p∧Hid (QS w r b s p ov O wr)∧Hid (R=bsh O (p - (k + 2)) (bscan (s.data.toList.drop p)))∧Hid (O.length ≤ p))
 case atStart=>exact ⟨k + 2,[],rfl,HK.out,Nat.le_refl _,HQ1,Lib.hid (by rw [HR0.out];cases bscan (s.data.toList.drop (k + 2)) <;> simp [bsh]),Lib.hid (Nat.zero_le _)⟩
 case round=>
  obtain ⟨p,O,rfl,hp,hkp,HQ,HT,HOL⟩:=hrel
  have HP:=Lib.hid hp
  have HKP:=Lib.hid hkp
  have HSH:=Lib.hid HQ.out.own.shape
  have j0:(0:Int) ≤ (p:Int):=by omega
  by_cases hlt:p < s.size
  ·have j1:(p:Int) < (s.size:Int):=by omega
   have j2:¬ (s.size:Int) ≤ (p:Int):=by omega
   obtain ⟨c,hc,hdr⟩:∃ c,s[p]=c∧s.data.toList.drop p=c :: s.data.toList.drop (p + 1):=⟨_,rfl,drop_cons s hlt⟩
   have HCC:=Lib.hid hc
   have HDR:=Lib.hid hdr
   have HLT:=Lib.hid hlt
   have HWP1:=Lib.hid (wrapI ((p:Int) + 1) (by omega) (by have:=HS.out;omega))
   have HWP2:=Lib.hid (wrapI ((p:Int) + 1 + 1) (by omega) (by have:=HS.out;omega))
   have HPK:Hid (∀ W,RD r s (p + 1) W→Calls Tryz.prog 111 #[.pointer (some ⟨r,0,none⟩),.int .i64 0] W fun e w'=>e = .returned (byte (topB (s.data.toList.drop (p + 1))))∧Below W.heap.size W w'):=Lib.hid (fun W h=>peek0 r s (p + 1) W h HS.out HLT.out)
   clear hp hkp hdr hc
   go_upto_region 4 with fail
   obtain ⟨⟨d0,d1,g1⟩,-,-,-,-⟩:=HQ.out
   have l0:=lat_cell d0
   have l1:=lat_cell d1
   refine wp_region_later (by kernel_rfl) (by kernel_rfl) ?_
   repeat (go_big_quiet_step (fail))
   refine wpQuiet_nil ?_
   refine later_out (fun w3 hb3=>?_)
   have HQ3:=Lib.hid (HQ.out.later hb3)
   clear l0 l1 d0 d1 g1 hb3
   go_upto_region 6 with fail
   obtain ⟨⟨d0,d1,g1⟩,-,-,-,-⟩:=HQ3.out
   have l0:=lat_cell d0
   have l1:=lat_cell d1
   refine wp_region_later (by kernel_rfl) (by kernel_rfl) ?_
   repeat (go_big_quiet_step (fail))
   refine wpQuiet_nil ?_
   refine later_out (fun w4 hb4=>?_)
   have HQ4:=Lib.hid (HQ3.out.later hb4)
   clear l0 l1 d0 d1 g1 hb4
   rw [HCC.out]
   clear HCC j1 j2
   obtain ⟨d,hd⟩:∃ d,d=topB (s.data.toList.drop (p + 1)):=⟨_,rfl⟩
   rw [← hd] at HPK
   have HD:=Lib.hid hd
   have HX1:=Lib.hid (fun W=>hexLexW c W)
   have HX2:=Lib.hid (fun W=>hexLexW d W)
   clear hd hlt
   by_cases h39:c=39
   ·subst h39
    have HRS:Hid (R = .inr (O,p - (k + 2) + 1)):=Lib.hid (by
     rw [HT.out,HDR.out,bscan_quote]
     simp [bsh])
    have hwp:=HWP1.out
    obtain ⟨ao,co,rfl⟩:=HSH.out
    obtain ⟨⟨d0,d1,g1⟩,-,-,-,-⟩:=HQ4.out
    go_upto_region 18 with fail
    have HQ6:=Lib.hid (HQ4.out.set HRB.out (p + 1) ((p:Int) + 1) (by omega))
    clear d0 d1 g1
    generalize w4.setCell ⟨r,1,none⟩ (.int .i64 ((p:Int) + 1))=w6 at *
    clear hwp
    by_cases hlong:1000 < O.length
    ·have i1:(1000:Int) < (O.length:Int):=by omega
     have HONE:Hid (blobOne (s.data.toList.drop k) = .bad 3 0):=Lib.hid (by rw [HONE.out,HRS.out,blobR_long hlong])
     clear hlong
     obtain ⟨⟨d0,d1,g1⟩,-,-,-,-⟩:=HQ6.out
     go_upto_region 20 with fail
     have HQ7:=Lib.hid (HQ6.out.set HRB.out (k) ((k:Int)) (rfl))
     clear d0 d1 g1
     generalize w6.setCell ⟨r,1,none⟩ (.int .i64 ((k:Int)))=w7 at *
     obtain ⟨c0,c1,c2,c3,f0,f1,f2,f3⟩:=HQ7.out.bx
     go_wp2_with fail
     obtain ⟨q0,q1,q2,q3⟩:=filled4 w7 b (.int .u8 0) (.string ⟨#[]⟩) (.int .u64 0) (.int .i64 0) HQ7.out.bx _ rfl
     rw [HONE.out]
     refine bodyPost_ret (v:=.tuple #[T0.val,.int .i64 3]) (by simp [results,Tryz.results114,go_sem,q0,q1,q2,q3,Tk.val,T0];try rfl) rfl ⟨rfl,HQ7.out.rd.box _ _ _ _ HNE.out,grown_box HQ7.out.gr _ _ _ _ HBE.out⟩
    ·have i1:¬ (1000:Int) < (O.length:Int):=by omega
     have HONE:Hid (blobOne (s.data.toList.drop k) = .tok 5 O 0 (p - (k + 2) + 1 + 2)):=Lib.hid (by rw [HONE.out,HRS.out,blobR_ok hlong])
     have hcv:=convX (P:=Tryz.prog) 63 5 9 Tryz.underlying63 Tryz.underlying5 Tryz.underlying9 (.inl HQ6.out.own)
     clear hlong
     obtain ⟨c0,c1,c2,c3,f0,f1,f2,f3⟩:=HQ6.out.bx
     go_wp2_with fail
     obtain ⟨q0,q1,q2,q3⟩:=filled4 w6 b (.int .u8 5) (str O) (.int .u64 0) (.int .i64 0) HQ6.out.bx _ rfl
     rw [HONE.out]
     refine bodyPost_ret (v:=.tuple #[Tk.val ⟨5,⟨O.toArray⟩,0,0⟩,.int .i64 0]) (by simp [results,Tryz.results114,go_sem,q0,q1,q2,q3,Tk.val]) rfl ⟨rfl,?_,grown_box HQ6.out.gr _ _ _ _ HBE.out⟩
     have hpos:k + lenO (.tok 5 O 0 (p - (k + 2) + 1 + 2))=p + 1:=by have:=HKP.out;show k + (p - (k + 2) + 1 + 2)=p + 1;omega
     rw [hpos]
     exact HQ6.out.rd.box _ _ _ _ HNE.out
   ·have e39:((c.toNat:Int) == 39)=false:=by
     have:c.toNat ≠ 39:=fun e=>h39 (UInt8.toNat_inj.1 e)
     first | (simp;done) | (simp;omega)
    have e40:((c.toNat:Int) != 39)=true:=by
     have:c.toNat ≠ 39:=fun e=>h39 (UInt8.toNat_inj.1 e)
     first | (simp;done) | (simp;omega)
    have H39:=Lib.hid h39
    clear h39
    cases hqc:hexV c with
    | none=>
     rw [hexI_none hqc] at HX1
     have HONE:Hid (blobOne (s.data.toList.drop k) = .bad 6 (p - (k + 2) + 2)):=Lib.hid (by
      rw [HONE.out,HT.out,HDR.out,bscan_none H39.out hqc]
      rfl)
     clear hqc
     go_wp2_with fail
     refine (HX1.out _).mono ?_
     rintro e w5 ⟨rfl,rfl⟩
     obtain ⟨c0,c1,c2,c3,f0,f1,f2,f3⟩:=HQ4.out.bx
     go_wp2_with fail
     obtain ⟨q0,q1,q2,q3⟩:=filled4 w4 b (.int .u8 0) (.string ⟨#[]⟩) (.int .u64 0) (.int .i64 0) HQ4.out.bx _ rfl
     rw [HONE.out]
     refine bodyPost_ret (v:=.tuple #[T0.val,.int .i64 6]) (by simp [results,Tryz.results114,go_sem,q0,q1,q2,q3,Tk.val,T0];try rfl) rfl ⟨rfl,(show RD r s (k + (p - (k + 2) + 2)) w4 by rw [show k + (p - (k + 2) + 2)=p by have:=HKP.out;omega];exact HQ4.out.rd).box _ _ _ _ HNE.out,grown_box HQ4.out.gr _ _ _ _ HBE.out⟩
    | some a=>
     rw [hexI_some hqc] at HX1
     have hpa:¬ (a:Int) < 0:=by omega
     cases hqd:hexV d with
     | none=>
      rw [hexI_none hqd] at HX2
      have HONE:Hid (blobOne (s.data.toList.drop k) = .bad 6 (p - (k + 2) + 1 + 2)):=Lib.hid (by
       rw [HONE.out,HT.out,HDR.out,bscan_half H39.out hqc (by rw [← HD.out];exact hqd)]
       rfl)
      clear hqc hqd
      have hwp:=HWP1.out
      go_wp2_with fail
      refine (HX1.out _).mono ?_
      rintro e w5 ⟨rfl,rfl⟩
      obtain ⟨⟨d0,d1,g1⟩,-,-,-,-⟩:=HQ4.out
      go_upto_region 12 with fail
      have HQ6:=Lib.hid (HQ4.out.set HRB.out (p + 1) ((p:Int) + 1) (by omega))
      clear d0 d1 g1
      generalize w4.setCell ⟨r,1,none⟩ (.int .i64 ((p:Int) + 1))=w6 at *
      clear hwp
      go_wp2_with fail
      refine (HPK.out _ HQ6.out.rd).mono ?_
      rintro e w7 ⟨rfl,hb7⟩
      have HQ7:=Lib.hid (HQ6.out.later hb7)
      clear hb7
      go_wp2_with fail
      refine (HX2.out _).mono ?_
      rintro e w5 ⟨rfl,rfl⟩
      obtain ⟨c0,c1,c2,c3,f0,f1,f2,f3⟩:=HQ7.out.bx
      go_wp2_with fail
      obtain ⟨q0,q1,q2,q3⟩:=filled4 w7 b (.int .u8 0) (.string ⟨#[]⟩) (.int .u64 0) (.int .i64 0) HQ7.out.bx _ rfl
      rw [HONE.out]
      refine bodyPost_ret (v:=.tuple #[T0.val,.int .i64 6]) (by simp [results,Tryz.results114,go_sem,q0,q1,q2,q3,Tk.val,T0];try rfl) rfl ⟨rfl,(show RD r s (k + (p - (k + 2) + 1 + 2)) w7 by rw [show k + (p - (k + 2) + 1 + 2)=p + 1 by have:=HKP.out;omega];exact HQ7.out.rd).box _ _ _ _ HNE.out,grown_box HQ7.out.gr _ _ _ _ HBE.out⟩
     | some y=>
      rw [hexI_some hqd] at HX2
      have ha:=(hexC_hexV hqc).2
      have hy:=(hexC_hexV hqd).2
      have HNX:Hid (p + 2 ≤ s.size∧R=bsh (O ++ [UInt8.ofNat (16 * a + y)]) (p + 2 - (k + 2)) (bscan (s.data.toList.drop (p + 2)))):=Lib.hid (by
       have hlt2:p + 1 < s.size:=by
        rcases Nat.lt_or_ge (p + 1) s.size with h | h
        ·exact h
        ·exfalso
         have h1:=HD.out
         rw [drop_end s h] at h1
         rw [h1] at hqd
         exact absurd hqd (by rw [show topB []=0 from rfl,hex_zero];simp)
       have h2:=drop_cons s hlt2
       have h3:s[p + 1]=d:=by
        have h1:=HD.out
        rw [h2] at h1
        exact h1.symm
       refine ⟨hlt2,?_⟩
       rw [HT.out,HDR.out,h2,h3,bscan_pair H39.out hqc hqd]
       have:=HKP.out
       rw [show p - (k + 2) + 2=p + 2 - (k + 2) by omega])
      have hp2:¬ (y:Int) < 0:=by omega
      obtain ⟨x,hx⟩:∃ x:UInt8,x=UInt8.ofNat (16 * a + y):=⟨_,rfl⟩
      have hxn:x.toNat=16 * a + y:=by rw [hx,UInt8.toNat_ofNat',Nat.mod_eq_of_lt (by omega)]
      have hor:bits BinOp.or IntKind.i64 ((a:Int) * 16) (y:Int)=(x.toNat:Int):=by rw [hxn];exact or16 a y ha hy
      have hm:(x.toNat:Int) % 256=(x.toNat:Int):=by omega
      have hw16:wrap64 ((a:Int) * 16)=(a:Int) * 16:=by unfold wrap64;omega
      have HOR:=Lib.hid hor
      have HM:=Lib.hid hm
      have HW16:=Lib.hid hw16
      rw [← hx] at HNX
      clear hqc hqd ha hy hx hxn hor hm hw16
      have hwp:=HWP1.out
      go_wp2_with fail
      refine (HX1.out _).mono ?_
      rintro e w5 ⟨rfl,rfl⟩
      obtain ⟨⟨d0,d1,g1⟩,-,-,-,-⟩:=HQ4.out
      go_upto_region 12 with fail
      have HQ6:=Lib.hid (HQ4.out.set HRB.out (p + 1) ((p:Int) + 1) (by omega))
      clear d0 d1 g1
      generalize w4.setCell ⟨r,1,none⟩ (.int .i64 ((p:Int) + 1))=w6 at *
      clear hwp
      go_wp2_with fail
      refine (HPK.out _ HQ6.out.rd).mono ?_
      rintro e w7 ⟨rfl,hb7⟩
      have HQ7:=Lib.hid (HQ6.out.later hb7)
      clear hb7
      go_wp2_with fail
      refine (HX2.out _).mono ?_
      rintro e w5 ⟨rfl,rfl⟩
      have hor:=HOR.out
      have hm:=HM.out
      have hw16:=HW16.out
      have hwp:=HWP2.out
      obtain ⟨ao,co,rfl⟩:=HSH.out
      go_wp2_with (at_builtin;refine wpList_append_x rfl (.tmp 117) (.tmp 119) 63 rfl (b + 1) 5 Num.elem_u8 _ O rfl (.inl (HQ7.out.own.alloc _)) _ [x] rfl (reads_cells w7.heap.size [x] (fun i hi=>by rcases i with _ | i;(go_simp);(simp at hi))) (by simp) (by clear hwp hor hm hw16;have:=HOL.out;have:=HS.out;have:=HP.out;simp;omega) (by clear hwp hor hm hw16;have:=HQ7.out.sz;simp;omega) ?_;intro v' w9 hown hbel;have HQ9:=Lib.hid (HQ7.out.app (W':=w9) HRB.out (((Below.refl _ w7).alloc HQ7.out.sz (.cells #[byte x] 5)).trans hbel) hown (by clear hwp hor hm hw16;have:=hbel.size;simp at this;omega) HBE.out);obtain ⟨⟨d0,d1,g1⟩,-,-,-,-⟩:=HQ9.out;clear hown hbel)
      go_roundg (s.size + 1 - (p + 2))
      case measure=>have:=HLT.out;omega
      case rel=>exact ⟨p + 2,_,rfl,HNX.out.1,by have:=HKP.out;omega,Lib.hid (HQ9.out.set HRB.out (p + 2) _ (by omega)),Lib.hid HNX.out.2,Lib.hid (by have:=HOL.out;simp;omega)⟩
  ·obtain rfl:p=s.size:=by omega
   have j2:(s.size:Int) ≤ (s.size:Int):=by omega
   have HONE:Hid (blobOne (s.data.toList.drop k) = .bad 6 (s.size - (k + 2) + 2)):=Lib.hid (by
    rw [HONE.out,HT.out,drop_end s (Nat.le_refl _)]
    rfl)
   clear hlt hp hkp
   go_upto_region 4 with fail
   obtain ⟨⟨d0,d1,g1⟩,-,-,-,-⟩:=HQ.out
   have l0:=lat_cell d0
   have l1:=lat_cell d1
   refine wp_region_later (by kernel_rfl) (by kernel_rfl) ?_
   repeat (go_big_quiet_step (fail))
   refine wpQuiet_nil ?_
   refine later_out (fun w3 hb3=>?_)
   have HQ3:=Lib.hid (HQ.out.later hb3)
   clear l0 l1 d0 d1 g1 hb3
   obtain ⟨c0,c1,c2,c3,f0,f1,f2,f3⟩:=HQ3.out.bx
   go_wp2_with fail
   obtain ⟨q0,q1,q2,q3⟩:=filled4 w3 b (.int .u8 0) (.string ⟨#[]⟩) (.int .u64 0) (.int .i64 0) HQ3.out.bx _ rfl
   rw [HONE.out]
   refine bodyPost_ret (v:=.tuple #[T0.val,.int .i64 6]) (by simp [results,Tryz.results114,go_sem,q0,q1,q2,q3,Tk.val,T0];try rfl) rfl ⟨rfl,(show RD r s (k + (s.size - (k + 2) + 2)) w3 by rw [show k + (s.size - (k + 2) + 2)=s.size by have:=HKP.out;omega];exact HQ3.out.rd).box _ _ _ _ HNE.out,grown_box HQ3.out.gr _ _ _ _ HBE.out⟩
def outT:One→Tk × Nat
 | .tok k s n _=>(⟨k,⟨s.toArray⟩,n,0⟩,0)
 | .bad e _=>(T0,e)
theorem outV_eq (o:One):outV o = .tuple #[.agg #[.int .u8 ((outT o).1.k:Int),.string (outT o).1.s,.int .u64 ((outT o).1.n:Int),.int .i64 (outT o).1.a],.int .i64 ((outT o).2:Int)]:=by cases o <;> rfl
set_option maxRecDepth 100000 in
set_option maxHeartbeats 16000000 in
theorem tokenW (w0:World) (r:Nat) (s:ByteArray) (k:Nat) (w:World) (hx:Env w0 r w) (h:RD r s k w) (hs:s.size ≤ 1000000) (hk:k < s.size) :
 Calls Tryz.prog 72 #[.pointer (some ⟨r,0,none⟩)] w fun e w'=>e = .returned (outV (oneL (s.data.toList.drop k)))∧RD r s (k + lenO (oneL (s.data.toList.drop k))) w'∧w.grownBy w' (some r):=by
 obtain ⟨l,hl⟩:∃ l,l=s.data.toList.drop k:=⟨_,rfl⟩
 obtain ⟨p,hp⟩:∃ p,p=k + lenO (oneL l):=⟨_,rfl⟩
 rw [← hl,← hp,outV_eq]
 obtain ⟨V,hV⟩:∃ V,V=outT (oneL l):=⟨_,rfl⟩
 have hv2:=outV_eq (oneL l)
 rw [← hV] at hv2 ⊢
 obtain ⟨⟨tk,ts,tn,ta⟩,te⟩:=V
 have HV:=Lib.hid hv2
 have HPP:=Lib.hid hp
 have HL:=Lib.hid hl
 have HS:=Lib.hid hs
 have HK:=Lib.hid hk
 have HX:=Lib.hid hx
 have hne:w.heap.size ≠ r:=by have:=h.lt;omega
 have HNE:=Lib.hid hne
 have HP0:Hid (∀ W,RD r s k W→Calls Tryz.prog 111 #[.pointer (some ⟨r,0,none⟩),.int .i64 0] W fun e w'=>e = .returned (byte (topB l))∧Below W.heap.size W w'):=Lib.hid (fun W h=>by rw [hl];exact peek0 r s k W h hs (by omega))
 have HP1:Hid (∀ W,RD r s k W→Calls Tryz.prog 111 #[.pointer (some ⟨r,0,none⟩),.int .i64 1] W fun e w'=>e = .returned (byte (topB (l.drop 1)))∧Below W.heap.size W w'):=Lib.hid (fun W h=>by rw [hl,List.drop_drop];exact peek1 r s k W h hs (by omega))
 have H1G:Hid (w.grownBy (w.alloc (.cells #[.int .u8 0,.string ⟨#[]⟩,.int .u64 0,.int .i64 0] 128)) (some r)):=Lib.hid (below_grown ((Below.refl _ _).alloc (Nat.le_refl _) _))
 have H1R:Hid (RD r s k (w.alloc (.cells #[.int .u8 0,.string ⟨#[]⟩,.int .u64 0,.int .i64 0] 128))):=Lib.hid (h.later ((Below.refl _ _).alloc (Nat.le_refl _) _))
 have H1B:Hid (TBox w.heap.size (w.alloc (.cells #[.int .u8 0,.string ⟨#[]⟩,.int .u64 0,.int .i64 0] 128))):=Lib.hid (tBox_new _ _)
 clear hl hp hv2 hV hx h hs hk hne
 simp only
 go_enter Tryz.func72,Tryz.ntmps72
 go_upto_region 2 with fail
 generalize (w.alloc (.cells #[.int .u8 0,.string ⟨#[]⟩,.int .u64 0,.int .i64 0] 128))=w1 at *
 obtain ⟨b,hb⟩:∃ b,b=w.heap.size:=⟨_,rfl⟩
 rw [← hb] at H1B HNE ⊢
 have HBE:=Lib.hid (Nat.le_of_eq hb.symm)
 clear hb
 obtain ⟨c,hc⟩:∃ c,c=topB l:=⟨_,rfl⟩
 obtain ⟨d,hd⟩:∃ d,d=topB (l.drop 1):=⟨_,rfl⟩
 rw [← hc] at HP0
 rw [← hd] at HP1
 have HC:=Lib.hid hc.symm
 have HD:=Lib.hid hd.symm
 clear hc hd
 go_wp2_with fail
 refine (HP0.out _ H1R.out).mono ?_
 rintro e w2 ⟨rfl,hb2⟩
 have H2R:=Lib.hid (H1R.out.later hb2)
 have H2B:=Lib.hid (H1B.out.later hb2)
 have H2G:=Lib.hid (grown_trans H1G.out (below_grown hb2))
 clear hb2 H1R H1B H1G HP0
 by_cases h39:c=39
 ·subst h39
  have HQT:Hid (∀ W,RD r s k W→w.grownBy W (some r)→Calls Tryz.prog 114 #[.pointer (some ⟨r,0,none⟩),.int .u8 4] W fun e w'=>e = .returned (.tuple #[.agg #[.int .u8 (tk:Int),.string ts,.int .u64 (tn:Int),.int .i64 ta],.int .i64 (te:Int)])∧RD r s p w'∧W.grownBy w' (some r)):=Lib.hid (fun W h g=>by
   have h1:oneL l=textOne l:=by
    unfold oneL
    rw [if_pos HC.out]
   have h2:=HV.out
   have h3:=HPP.out
   rw [h1] at h2 h3
   rw [h3,← h2,HL.out]
   exact textLexW r s k W h HS.out HK.out)
  go_wp2_with fail
  refine (HQT.out _ H2R.out H2G.out).mono ?_
  rintro e w9 ⟨rfl,hr9,hg9⟩
  have HR9:=Lib.hid hr9
  have HB9:=Lib.hid (H2B.out.grown hg9 HNE.out)
  have HG9:=Lib.hid (grown_trans H2G.out hg9)
  clear hr9 hg9
  obtain ⟨c0,c1,c2,c3,f0,f1,f2,f3⟩:=HB9.out
  go_wp2_with fail
  obtain ⟨q0,q1,q2,q3⟩:=filled4 w9 b (.int .u8 (tk:Int)) (.string ts) (.int .u64 (tn:Int)) (.int .i64 ta) HB9.out _ rfl
  refine bodyPost_ret (v:=.tuple #[.agg #[.int .u8 (tk:Int),.string ts,.int .u64 (tn:Int),.int .i64 ta],.int .i64 (te:Int)]) (by simp [results,Tryz.results72,go_sem,q0,q1,q2,q3]) rfl ⟨rfl,HR9.out.box _ _ _ _ HNE.out,grown_box HG9.out _ _ _ _ HBE.out⟩
 ·have e39:((c.toNat:Int) == 39)=false:=by
   have:c.toNat ≠ 39:=fun e=>h39 (UInt8.toNat_inj.1 e)
   first | (simp;done) | (simp;omega)
  have H39:Hid (¬ topB l=39):=Lib.hid (by rw [HC.out];exact h39)
  clear h39
  go_upto_region 5 with fail
  obtain ⟨B,hB⟩:∃ B,B=decide (c=120∧d=39):=⟨_,rfl⟩
  have HBB:=Lib.hid hB
  clear hB e39
  go_cut [17] (fun v wx=>v = .bool B∧Hid (RD r s k wx)∧Hid (TBox b wx)∧Hid (w.grownBy wx (some r)))
  case first=>
   by_cases h120:c=120
   ·subst h120
    by_cases hd:d=39
    ·subst hd
     obtain rfl:B=true:=by rw [HBB.out];rfl
     go_wp2_with fail
     refine (HP1.out _ H2R.out).mono ?_
     rintro e w3 ⟨rfl,hb3⟩
     have H3R:=Lib.hid (H2R.out.later hb3)
     have H3B:=Lib.hid (H2B.out.later hb3)
     have H3G:=Lib.hid (grown_trans H2G.out (below_grown hb3))
     clear hb3
     go_wp2_with fail
     go_meet
     exact ⟨rfl,H3R,H3B,H3G⟩
    ·obtain rfl:B=false:=by rw [HBB.out];exact decide_eq_false (fun e=>hd e.2)
     have e1:((d.toNat:Int) == 39)=false:=by
      have:d.toNat ≠ 39:=fun e=>hd (UInt8.toNat_inj.1 e)
      first | (simp;done) | (simp;omega)
     clear hd
     go_wp2_with fail
     refine (HP1.out _ H2R.out).mono ?_
     rintro e w3 ⟨rfl,hb3⟩
     have H3R:=Lib.hid (H2R.out.later hb3)
     have H3B:=Lib.hid (H2B.out.later hb3)
     have H3G:=Lib.hid (grown_trans H2G.out (below_grown hb3))
     clear hb3
     go_wp2_with fail
     go_meet
     exact ⟨rfl,H3R,H3B,H3G⟩
   ·obtain rfl:B=false:=by rw [HBB.out];exact decide_eq_false (fun e=>h120 e.1)
    have e1:((c.toNat:Int) == 120)=false:=by
     have:c.toNat ≠ 120:=fun e=>h120 (UInt8.toNat_inj.1 e)
     first | (simp;done) | (simp;omega)
    clear h120
    go_wp2_with fail
    go_meet
    exact ⟨rfl,H2R,H2B,H2G⟩
  case rest=>
   rename World=>w4
   obtain ⟨rfl,H4R,H4B,H4G⟩:=hcut
   clear H2R H2B H2G HP1
   have HBT:Hid ((topB l=120∧topB (l.drop 1)=39) ↔ B=true):=Lib.hid (by rw [HC.out,HD.out,HBB.out];exact decide_eq_true_iff.symm)
   clear HBB
   cases B with
   | true=>
    have HQB:Hid (∀ W,RD r s k W→w.grownBy W (some r)→Calls Tryz.prog 114 #[.pointer (some ⟨r,0,none⟩),.int .u8 5] W fun e w'=>e = .returned (.tuple #[.agg #[.int .u8 (tk:Int),.string ts,.int .u64 (tn:Int),.int .i64 ta],.int .i64 (te:Int)])∧RD r s p w'∧W.grownBy w' (some r)):=Lib.hid (fun W h g=>by
     have h1:oneL l=blobOne l:=by
      unfold oneL
      rw [if_neg H39.out,if_pos (HBT.out.2 rfl)]
     have h2:=HV.out
     have h3:=HPP.out
     rw [h1] at h2 h3
     rw [h3,← h2,HL.out]
     exact blobLexW r s k W h HS.out (by
      have h5:=(HBT.out.2 rfl).2
      rw [HL.out,List.drop_drop] at h5
      rcases Nat.lt_or_ge (k + 1) s.size with h6 | h6
      ·exact h6
      ·rw [bytes_end s (k + 1) h6] at h5;exact absurd h5 (by decide)))
    go_wp2_with fail
    refine (HQB.out _ H4R.out H4G.out).mono ?_
    rintro e w9 ⟨rfl,hr9,hg9⟩
    have HR9:=Lib.hid hr9
    have HB9:=Lib.hid (H4B.out.grown hg9 HNE.out)
    have HG9:=Lib.hid (grown_trans H4G.out hg9)
    clear hr9 hg9
    obtain ⟨c0,c1,c2,c3,f0,f1,f2,f3⟩:=HB9.out
    go_wp2_with fail
    obtain ⟨q0,q1,q2,q3⟩:=filled4 w9 b (.int .u8 (tk:Int)) (.string ts) (.int .u64 (tn:Int)) (.int .i64 ta) HB9.out _ rfl
    refine bodyPost_ret (v:=.tuple #[.agg #[.int .u8 (tk:Int),.string ts,.int .u64 (tn:Int),.int .i64 ta],.int .i64 (te:Int)]) (by simp [results,Tryz.results72,go_sem,q0,q1,q2,q3]) rfl ⟨rfl,HR9.out.box _ _ _ _ HNE.out,grown_box HG9.out _ _ _ _ HBE.out⟩
   | false=>
    have H120:Hid (¬ (topB l=120∧topB (l.drop 1)=39)):=Lib.hid (fun e=>absurd (HBT.out.1 e) (by decide))
    clear HBT
    go_upto_region 7 with fail
    obtain ⟨S,hS⟩:∃ S,S=smallB c:=⟨_,rfl⟩
    obtain ⟨P,hP⟩:∃ P,P=capB c:=⟨_,rfl⟩
    have HSM:Hid (∀ W,Calls Tryz.prog 115 #[byte c] W fun e w'=>e = .returned (.bool S)∧W=w'):=Lib.hid (fun W=>by rw [hS];exact smallW c W)
    have HCP:Hid (∀ W,Calls Tryz.prog 116 #[byte c] W fun e w'=>e = .returned (.bool P)∧W=w'):=Lib.hid (fun W=>by rw [hP];exact capW c W)
    have HSP:Hid ((smallB (topB l) || capB (topB l))=(S || P)):=Lib.hid (by rw [HC.out,hS,hP])
    clear hS hP
    go_cut [29] (fun v wx=>v = .bool (S || P)∧w4=wx)
    case first=>
     cases S with
     | true=>
      go_wp2_with fail
      refine (HSM.out _).mono ?_
      rintro e w5 ⟨rfl,rfl⟩
      go_wp2_with fail
      go_meet
      exact ⟨rfl,rfl⟩
     | false=>
      cases P with
      | true=>
       go_wp2_with fail
       refine (HSM.out _).mono ?_
       rintro e w5 ⟨rfl,rfl⟩
       go_wp2_with fail
       refine (HCP.out _).mono ?_
       rintro e w5 ⟨rfl,rfl⟩
       go_wp2_with fail
       go_meet
       exact ⟨rfl,rfl⟩
      | false=>
       go_wp2_with fail
       refine (HSM.out _).mono ?_
       rintro e w5 ⟨rfl,rfl⟩
       go_wp2_with fail
       refine (HCP.out _).mono ?_
       rintro e w5 ⟨rfl,rfl⟩
       go_wp2_with fail
       go_meet
       exact ⟨rfl,rfl⟩
    case rest=>
     obtain ⟨rfl,rfl⟩:=hcut
     obtain ⟨X,hX⟩:∃ X,X=(S || P):=⟨_,rfl⟩
     rw [← hX] at HSP ⊢
     clear hX HSM HCP
     cases X with
     | true=>
      have HWD:Hid (∀ W,RD r s k W→w.grownBy W (some r)→Calls Tryz.prog 117 #[.pointer (some ⟨r,0,none⟩)] W fun e w'=>e = .returned (.tuple #[.agg #[.int .u8 (tk:Int),.string ts,.int .u64 (tn:Int),.int .i64 ta],.int .i64 (te:Int)])∧RD r s p w'∧W.grownBy w' (some r)):=Lib.hid (fun W h g=>by
       have h1:oneL l=wordOne l:=by
        unfold oneL
        rw [if_neg H39.out,if_neg H120.out,if_pos HSP.out]
       have h2:=HV.out
       have h3:=HPP.out
       rw [h1] at h2 h3
       rw [h3,← h2,HL.out]
       exact wordW w0 r s k W (HX.out.grown g) h HS.out (Nat.le_of_lt HK.out))
      go_wp2_with fail
      refine (HWD.out _ H4R.out H4G.out).mono ?_
      rintro e w9 ⟨rfl,hr9,hg9⟩
      have HR9:=Lib.hid hr9
      have HB9:=Lib.hid (H4B.out.grown hg9 HNE.out)
      have HG9:=Lib.hid (grown_trans H4G.out hg9)
      clear hr9 hg9
      obtain ⟨c0,c1,c2,c3,f0,f1,f2,f3⟩:=HB9.out
      go_wp2_with fail
      obtain ⟨q0,q1,q2,q3⟩:=filled4 w9 b (.int .u8 (tk:Int)) (.string ts) (.int .u64 (tn:Int)) (.int .i64 ta) HB9.out _ rfl
      refine bodyPost_ret (v:=.tuple #[.agg #[.int .u8 (tk:Int),.string ts,.int .u64 (tn:Int),.int .i64 ta],.int .i64 (te:Int)]) (by simp [results,Tryz.results72,go_sem,q0,q1,q2,q3]) rfl ⟨rfl,HR9.out.box _ _ _ _ HNE.out,grown_box HG9.out _ _ _ _ HBE.out⟩
     | false=>
      obtain ⟨D,hD⟩:∃ D,D=digB c:=⟨_,rfl⟩
      have HDG:Hid (∀ W,Calls Tryz.prog 118 #[byte c] W fun e w'=>e = .returned (.bool D)∧W=w'):=Lib.hid (fun W=>by rw [hD];exact digW c W)
      have HDD:Hid (digB (topB l)=D):=Lib.hid (by rw [HC.out,hD])
      clear hD
      go_wp2_with fail
      refine (HDG.out _).mono ?_
      rintro e w5 ⟨rfl,rfl⟩
      cases D with
      | true=>
       have HNU:Hid (∀ W,RD r s k W→w.grownBy W (some r)→Calls Tryz.prog 119 #[.pointer (some ⟨r,0,none⟩)] W fun e w'=>e = .returned (.tuple #[.agg #[.int .u8 (tk:Int),.string ts,.int .u64 (tn:Int),.int .i64 ta],.int .i64 (te:Int)])∧RD r s p w'∧W.grownBy w' (some r)):=Lib.hid (fun W h g=>by
        have h1:oneL l=numOne l:=by
         unfold oneL
         rw [if_neg H39.out,if_neg H120.out,if_neg (by rw [HSP.out];decide),if_pos HDD.out]
        have h2:=HV.out
        have h3:=HPP.out
        rw [h1] at h2 h3
        rw [h3,← h2,HL.out]
        exact numberW w0 r s k W (HX.out.grown g) h HS.out (Nat.le_of_lt HK.out) (by rw [← HL.out];exact HDD.out))
       go_wp2_with fail
       refine (HNU.out _ H4R.out H4G.out).mono ?_
       rintro e w9 ⟨rfl,hr9,hg9⟩
       have HR9:=Lib.hid hr9
       have HB9:=Lib.hid (H4B.out.grown hg9 HNE.out)
       have HG9:=Lib.hid (grown_trans H4G.out hg9)
       clear hr9 hg9
       obtain ⟨c0,c1,c2,c3,f0,f1,f2,f3⟩:=HB9.out
       go_wp2_with fail
       obtain ⟨q0,q1,q2,q3⟩:=filled4 w9 b (.int .u8 (tk:Int)) (.string ts) (.int .u64 (tn:Int)) (.int .i64 ta) HB9.out _ rfl
       refine bodyPost_ret (v:=.tuple #[.agg #[.int .u8 (tk:Int),.string ts,.int .u64 (tn:Int),.int .i64 ta],.int .i64 (te:Int)]) (by simp [results,Tryz.results72,go_sem,q0,q1,q2,q3]) rfl ⟨rfl,HR9.out.box _ _ _ _ HNE.out,grown_box HG9.out _ _ _ _ HBE.out⟩
      | false=>
       have HSG:Hid (∀ W,RD r s k W→w.grownBy W (some r)→Calls Tryz.prog 113 #[.pointer (some ⟨r,0,none⟩)] W fun e w'=>e = .returned (.tuple #[.agg #[.int .u8 (tk:Int),.string ts,.int .u64 (tn:Int),.int .i64 ta],.int .i64 (te:Int)])∧RD r s p w'∧W.grownBy w' (some r)):=Lib.hid (fun W h g=>by
        have h1:oneL l=signOne l:=by
         unfold oneL
         rw [if_neg H39.out,if_neg H120.out,if_neg (by rw [HSP.out];decide),if_neg (by rw [HDD.out];decide)]
        have h2:=HV.out
        have h3:=HPP.out
        rw [h1] at h2 h3
        rw [h3,← h2,HL.out]
        exact signW r s k W h HS.out HK.out)
       go_wp2_with fail
       refine (HSG.out _ H4R.out H4G.out).mono ?_
       rintro e w9 ⟨rfl,hr9,hg9⟩
       have HR9:=Lib.hid hr9
       have HB9:=Lib.hid (H4B.out.grown hg9 HNE.out)
       have HG9:=Lib.hid (grown_trans H4G.out hg9)
       clear hr9 hg9
       obtain ⟨c0,c1,c2,c3,f0,f1,f2,f3⟩:=HB9.out
       go_wp2_with fail
       obtain ⟨q0,q1,q2,q3⟩:=filled4 w9 b (.int .u8 (tk:Int)) (.string ts) (.int .u64 (tn:Int)) (.int .i64 ta) HB9.out _ rfl
       refine bodyPost_ret (v:=.tuple #[.agg #[.int .u8 (tk:Int),.string ts,.int .u64 (tn:Int),.int .i64 ta],.int .i64 (te:Int)]) (by simp [results,Tryz.results72,go_sem,q0,q1,q2,q3]) rfl ⟨rfl,HR9.out.box _ _ _ _ HNE.out,grown_box HG9.out _ _ _ _ HBE.out⟩
theorem equal_T (a b:Int) (s t:ByteArray) (c d e f:Int) (w:World) (n:Nat):(Op.equalIn (n + 3) 128 (.agg #[.int .u8 a,.string s,.int .u64 c,.int .i64 e]) (.agg #[.int .u8 b,.string t,.int .u64 d,.int .i64 f])).run Tryz.prog w = .ok (a == b && (s.toList == t.toList && (c == d && e == f))) w:=by
 rw [show n + 3=(n + 2) + 1 from rfl,run_equalIn_agg w (n + 2) 128 _ _ (by kernel_rfl) (by kernel_rfl)]
 go_simp
 by_cases h1:a=b <;> by_cases h2:c=d <;> by_cases h3:(s.toList == t.toList)=true <;> by_cases h4:e=f <;> simp_all
theorem same_T (x y:Tk):((x.k:Int) == (y.k:Int) && (x.s.toList == y.s.toList && ((x.n:Int) == (y.n:Int) && x.a == y.a)))=decide (x=y):=by
 rw [str_eq,Bool.eq_iff_iff]
 simp only [Bool.and_eq_true,beq_iff_eq,decide_eq_true_eq]
 constructor
 ·rintro ⟨h1,h2,h3,h4⟩;exact Tk.ext' (by omega) h2 (by omega) h4
 ·rintro rfl;exact ⟨rfl,rfl,rfl,rfl⟩
theorem neq_toldT (x y:Tk) (t:Bool) (h:(x=y) = ¬ (t=true)) (w:World):(binOp .neq 128 (.agg #[.int .u8 (x.k:Int),.string x.s,.int .u64 (x.n:Int),.int .i64 x.a]) (.agg #[.int .u8 (y.k:Int),.string y.s,.int .u64 (y.n:Int),.int .i64 y.a])).run Tryz.prog w = .ok (.bool t) w:=by
 rw [run_neq_struct,equal_T _ _ _ _ _ _ _ _ w 9997,same_T]
 show Result.ok (Value.bool _) w=_
 congr 2;rw [Bool.eq_iff_iff];simp [h]
theorem equal_S (a b c d:Int) (w:World) (n:Nat):(Op.equalIn (n + 3) 39 (.agg #[.int .i64 a,.int .i64 c]) (.agg #[.int .i64 b,.int .i64 d])).run Tryz.prog w = .ok (a == b && c == d) w:=by
 rw [show n + 3=(n + 2) + 1 from rfl,run_equalIn_agg w (n + 2) 39 _ _ (by kernel_rfl) (by kernel_rfl)]
 go_simp
 by_cases h1:a=b <;> by_cases h2:c=d <;> simp_all
theorem neq_toldS (a b c d:Int) (t:Bool) (h:(a=b∧c=d) = ¬ (t=true)) (w:World):(binOp .neq 39 (.agg #[.int .i64 a,.int .i64 c]) (.agg #[.int .i64 b,.int .i64 d])).run Tryz.prog w = .ok (.bool t) w:=by
 rw [run_neq_struct,equal_S a b c d w 9997]
 show Result.ok (Value.bool _) w=_
 congr 2
 by_cases h1:a=b <;> by_cases h2:c=d <;> cases t <;> simp_all
end Go.Proofs.YtmdogmpcmkfjpaaGreatDoor.Dt
