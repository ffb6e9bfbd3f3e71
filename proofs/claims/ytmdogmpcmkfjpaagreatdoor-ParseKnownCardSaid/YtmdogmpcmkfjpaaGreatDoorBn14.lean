import Derived.Deep.DeepCutAuto
import Derived.Laws.Bits64
import Derived.Test.YtmdogmpcmkfjpaaGreatDoorBn12
import Derived.Test.YtmdogmpcmkfjpaaGreatDoorBn01
/- Part of the proof (merged). -/
namespace Go.Proofs.YtmdogmpcmkfjpaaGreatDoor.Dt
open Go.RowKit Go.Proofs.YtmdogmpcmkfjpaaGreatDoor.By
theorem signs_at:∀ k:Fin 256,(Lib.indexByte [40,41,44,46,42,43,45,47,37,61,60,62,59] (UInt8.ofNat k.val) < 0 ↔ UInt8.ofNat k.val ∉ signsL):=by decide +kernel
def signI (c:UInt8):Int:=Lib.indexByte [40,41,44,46,42,43,45,47,37,61,60,62,59] c
theorem signI_neg (c:UInt8):signI c < 0 ↔ c ∉ signsL:=by
 have h2:=signs_at ⟨c.toNat,c.toNat_lt⟩
 simp only [UInt8.ofNat_toNat] at h2
 exact h2
theorem signByte (c:UInt8) (w:World):Calls Tryz.prog 138 #[.string ⟨#[40,41,44,46,42,43,45,47,37,61,60,62,59]⟩,byte c] w fun e w'=>e = .returned (.int .i64 (signI c))∧w=w':=by
 refine (Tryz.strings_IndexByte _ _ w).mono fun e w' h=>?_
 obtain ⟨rfl,rfl⟩:=h
 have e:((c.toNat:Int)).toNat.toUInt8=c:=by simp
 rw [e]
 exact ⟨rfl,rfl⟩
set_option maxRecDepth 100000 in
set_option maxHeartbeats 8000000 in
theorem signW (r:Nat) (s:ByteArray) (k:Nat) (w:World) (h:RD r s k w) (hs:s.size ≤ 1000000) (hk:k < s.size) :
 Calls Tryz.prog 113 #[.pointer (some ⟨r,0,none⟩)] w fun e w'=>e = .returned (outV (signOne (s.data.toList.drop k)))∧RD r s (k + lenO (signOne (s.data.toList.drop k))) w'∧w.grownBy w' (some r):=by
 obtain ⟨l,hl⟩:∃ l,l=s.data.toList.drop k:=⟨_,rfl⟩
 have hll:l.length=s.size - k:=by rw [hl,List.length_drop,bytes_list]
 have hne:w.heap.size ≠ r:=by have:=h.lt;omega
 obtain ⟨t,ht⟩:∃ t,t=l.take 2:=⟨_,rfl⟩
 obtain ⟨m,hm⟩:∃ m,m=t.length:=⟨_,rfl⟩
 have hm2:m=min 2 (s.size - k):=by rw [hm,ht,List.length_take,hll]
 have hcut:(.string (s.extract k (k + m)):Value)=str t:=by
  have h1:l.take m=l.take 2:=by rw [List.take_eq_take_iff,hm2];omega
  rw [cut_list,← hl,h1,ht]
 have hone:(.string (s.extract k (k + 1)):Value)=str (l.take 1):=by rw [cut_list,← hl]
 have htop:topB l=s[k]:=by rw [hl];exact bytes_get s k hk
 have HONE:Hid (signOne l=if t ∈ twosL then .tok 6 t 0 2 else if s[k] ∈ signsL then .tok 6 (l.take 1) 0 1 else .bad 6 0):=Lib.hid (by unfold signOne;rw [← ht,htop])
 rw [← hl]
 have hw2:=wrapI ((k:Int) + 2) (by omega) (by omega)
 have hw1:=wrapI ((k:Int) + 1) (by omega) (by omega)
 have hw0:=wrapI (k:Int) (by omega) (by omega)
 have hw3:=wrapK ((k:Int) + 2) (by omega) (by omega)
 have hw4:=wrapK (k:Int) (by omega) (by omega)
 have HW4:=Lib.hid hw4
 have HW2:=Lib.hid hw2
 have HW1:=Lib.hid hw1
 have HW0:=Lib.hid hw0
 have HW3:=Lib.hid hw3
 clear hw2 hw1 hw0 hw3 hw4
 have hmi:min ((k:Int) + 2) (s.size:Int)=(k:Int) + (m:Int):=by omega
 have j0:(0:Int) ≤ (k:Int):=by omega
 have j1:(k:Int) ≤ (k:Int) + (m:Int):=by omega
 have j2:(k:Int) + (m:Int) ≤ (s.size:Int):=by omega
 have j3:(k:Int) < (s.size:Int):=by omega
 have j4:(k:Int) + 1 ≤ (s.size:Int):=by omega
 have HM2:Hid (t ∈ twosL→m=2):=Lib.hid (fun hx=>by
  rw [hm]
  simp only [twosL,List.mem_cons,List.not_mem_nil,or_false] at hx
  rcases hx with rfl | rfl | rfl | rfl <;> rfl)
 have HNE:=Lib.hid hne
 have HC:=Lib.hid hcut
 have HO:=Lib.hid hone
 have HMI:=Lib.hid hmi
 have HG0:Hid (w.grownBy (w.alloc (.cells #[.int .u8 0,.string ⟨#[]⟩,.int .u64 0,.int .i64 0] 128)) (some r)):=Lib.hid (below_grown ((Below.refl _ _).alloc (Nat.le_refl _) _))
 have HR0:Hid (RD r s k (w.alloc (.cells #[.int .u8 0,.string ⟨#[]⟩,.int .u64 0,.int .i64 0] 128))):=Lib.hid (h.later ((Below.refl _ _).alloc (Nat.le_refl _) _))
 have HB0:Hid (TBox w.heap.size (w.alloc (.cells #[.int .u8 0,.string ⟨#[]⟩,.int .u64 0,.int .i64 0] 128))):=Lib.hid (tBox_new _ _)
 clear hl hll hne h hs hm hm2 ht hcut hone htop hmi
 go_enter Tryz.func113,Tryz.ntmps113
 go_upto_region 1 with fail
 generalize w.alloc (.cells #[.int .u8 0,.string ⟨#[]⟩,.int .u64 0,.int .i64 0] 128)=w1 at *
 obtain ⟨b,hb⟩:∃ b,b=w.heap.size:=⟨_,rfl⟩
 rw [← hb] at HB0 HNE ⊢
 have HBE:=Lib.hid (Nat.le_of_eq hb.symm)
 clear hb
 go_cut [4] (fun v wx=>v=str t∧Hid (Below w1.heap.size w1 wx))
 case first=>
  have hmi:=HMI.out
  have hw3:=HW3.out
  obtain ⟨d0,d1,g1⟩:=HR0.out
  go_quiet (fail)
  go_wp2_with fail
  go_meet
  exact ⟨HC.out,Lib.hid (drewN_below (Below.refl _ _) _)⟩
 case rest=>
  rename World=>w2
  obtain ⟨rfl,HBW⟩:=hcut
  have HR2:=Lib.hid (HR0.out.later HBW.out)
  have HB2:=Lib.hid (HB0.out.later HBW.out)
  have HG2:=Lib.hid (grown_trans HG0.out (below_grown HBW.out))
  clear HR0 HB0 HG0 HBW
  by_cases hx:t ∈ twosL
  ·have hy:=hx
   simp only [twosL,List.mem_cons,List.not_mem_nil,or_false] at hy
   rcases hy with rfl | rfl | rfl | rfl
   ·have HONE:Hid (signOne l = .tok 6 [60,62] 0 2):=Lib.hid (by rw [HONE.out,if_pos (by decide)])
    have hw2:=HW2.out
    obtain ⟨d0,d1,g1⟩:=HR2.out
    clear hx HM2
    go_upto_region 8 with fail
    have e1:((k + 2:Nat):Int)=(k:Int) + 2:=by omega
    have HR6:=Lib.hid (HR2.out.set (k + 2))
    have HB6:=Lib.hid (HB2.out.else (r:=r) (i:=1) (u:=.int .i64 ((k + 2:Nat):Int)) HNE.out)
    have HG6:=Lib.hid (grown_trans HG2.out (grown_set w2 r 1 (.int .i64 ((k + 2:Nat):Int))))
    rw [e1] at HR6 HB6 HG6
    clear d0 d1 g1 hw2 e1
    generalize w2.setCell ⟨r,1,none⟩ (.int .i64 ((k:Int) + 2))=w6 at *
    obtain ⟨c0,c1,c2,c3,f0,f1,f2,f3⟩:=HB6.out
    go_wp2_with fail
    obtain ⟨q0,q1,q2,q3⟩:=filled4 w6 b (.int .u8 6) (.string ⟨#[60,62]⟩) (.int .u64 0) (.int .i64 0) HB6.out _ rfl
    rw [HONE.out]
    refine bodyPost_ret (v:=.tuple #[Tk.val ⟨6,⟨([60,62]:List UInt8).toArray⟩,0,0⟩,.int .i64 0]) (by simp [results,Tryz.results113,go_sem,q0,q1,q2,q3,Tk.val]) rfl ⟨rfl,HR6.out.box _ _ _ _ HNE.out,grown_box HG6.out _ _ _ _ HBE.out⟩
   ·have HONE:Hid (signOne l = .tok 6 [60,61] 0 2):=Lib.hid (by rw [HONE.out,if_pos (by decide)])
    have hw2:=HW2.out
    obtain ⟨d0,d1,g1⟩:=HR2.out
    clear hx HM2
    go_upto_region 8 with fail
    have e1:((k + 2:Nat):Int)=(k:Int) + 2:=by omega
    have HR6:=Lib.hid (HR2.out.set (k + 2))
    have HB6:=Lib.hid (HB2.out.else (r:=r) (i:=1) (u:=.int .i64 ((k + 2:Nat):Int)) HNE.out)
    have HG6:=Lib.hid (grown_trans HG2.out (grown_set w2 r 1 (.int .i64 ((k + 2:Nat):Int))))
    rw [e1] at HR6 HB6 HG6
    clear d0 d1 g1 hw2 e1
    generalize w2.setCell ⟨r,1,none⟩ (.int .i64 ((k:Int) + 2))=w6 at *
    obtain ⟨c0,c1,c2,c3,f0,f1,f2,f3⟩:=HB6.out
    go_wp2_with fail
    obtain ⟨q0,q1,q2,q3⟩:=filled4 w6 b (.int .u8 6) (.string ⟨#[60,61]⟩) (.int .u64 0) (.int .i64 0) HB6.out _ rfl
    rw [HONE.out]
    refine bodyPost_ret (v:=.tuple #[Tk.val ⟨6,⟨([60,61]:List UInt8).toArray⟩,0,0⟩,.int .i64 0]) (by simp [results,Tryz.results113,go_sem,q0,q1,q2,q3,Tk.val]) rfl ⟨rfl,HR6.out.box _ _ _ _ HNE.out,grown_box HG6.out _ _ _ _ HBE.out⟩
   ·have HONE:Hid (signOne l = .tok 6 [62,61] 0 2):=Lib.hid (by rw [HONE.out,if_pos (by decide)])
    have hw2:=HW2.out
    obtain ⟨d0,d1,g1⟩:=HR2.out
    clear hx HM2
    go_upto_region 8 with fail
    have e1:((k + 2:Nat):Int)=(k:Int) + 2:=by omega
    have HR6:=Lib.hid (HR2.out.set (k + 2))
    have HB6:=Lib.hid (HB2.out.else (r:=r) (i:=1) (u:=.int .i64 ((k + 2:Nat):Int)) HNE.out)
    have HG6:=Lib.hid (grown_trans HG2.out (grown_set w2 r 1 (.int .i64 ((k + 2:Nat):Int))))
    rw [e1] at HR6 HB6 HG6
    clear d0 d1 g1 hw2 e1
    generalize w2.setCell ⟨r,1,none⟩ (.int .i64 ((k:Int) + 2))=w6 at *
    obtain ⟨c0,c1,c2,c3,f0,f1,f2,f3⟩:=HB6.out
    go_wp2_with fail
    obtain ⟨q0,q1,q2,q3⟩:=filled4 w6 b (.int .u8 6) (.string ⟨#[62,61]⟩) (.int .u64 0) (.int .i64 0) HB6.out _ rfl
    rw [HONE.out]
    refine bodyPost_ret (v:=.tuple #[Tk.val ⟨6,⟨([62,61]:List UInt8).toArray⟩,0,0⟩,.int .i64 0]) (by simp [results,Tryz.results113,go_sem,q0,q1,q2,q3,Tk.val]) rfl ⟨rfl,HR6.out.box _ _ _ _ HNE.out,grown_box HG6.out _ _ _ _ HBE.out⟩
   ·have HONE:Hid (signOne l = .tok 6 [124,124] 0 2):=Lib.hid (by rw [HONE.out,if_pos (by decide)])
    have hw2:=HW2.out
    obtain ⟨d0,d1,g1⟩:=HR2.out
    clear hx HM2
    go_upto_region 8 with fail
    have e1:((k + 2:Nat):Int)=(k:Int) + 2:=by omega
    have HR6:=Lib.hid (HR2.out.set (k + 2))
    have HB6:=Lib.hid (HB2.out.else (r:=r) (i:=1) (u:=.int .i64 ((k + 2:Nat):Int)) HNE.out)
    have HG6:=Lib.hid (grown_trans HG2.out (grown_set w2 r 1 (.int .i64 ((k + 2:Nat):Int))))
    rw [e1] at HR6 HB6 HG6
    clear d0 d1 g1 hw2 e1
    generalize w2.setCell ⟨r,1,none⟩ (.int .i64 ((k:Int) + 2))=w6 at *
    obtain ⟨c0,c1,c2,c3,f0,f1,f2,f3⟩:=HB6.out
    go_wp2_with fail
    obtain ⟨q0,q1,q2,q3⟩:=filled4 w6 b (.int .u8 6) (.string ⟨#[124,124]⟩) (.int .u64 0) (.int .i64 0) HB6.out _ rfl
    rw [HONE.out]
    refine bodyPost_ret (v:=.tuple #[Tk.val ⟨6,⟨([124,124]:List UInt8).toArray⟩,0,0⟩,.int .i64 0]) (by simp [results,Tryz.results113,go_sem,q0,q1,q2,q3,Tk.val]) rfl ⟨rfl,HR6.out.box _ _ _ _ HNE.out,grown_box HG6.out _ _ _ _ HBE.out⟩
  ·have n1:(t == [60,62])=false:=by rw [beq_eq_false_iff_ne];rintro rfl;exact hx (by decide)
   have n2:(t == [60,61])=false:=by rw [beq_eq_false_iff_ne];rintro rfl;exact hx (by decide)
   have n3:(t == [62,61])=false:=by rw [beq_eq_false_iff_ne];rintro rfl;exact hx (by decide)
   have n4:(t == [124,124])=false:=by rw [beq_eq_false_iff_ne];rintro rfl;exact hx (by decide)
   have HONE:Hid (signOne l=if s[k] ∈ signsL then .tok 6 (l.take 1) 0 1 else .bad 6 0):=Lib.hid (by rw [HONE.out,if_neg hx])
   have HSB:=Lib.hid (signByte s[k])
   clear hx HM2 HC HMI
   go_upto_region 9 with fail
   clear n1 n2 n3 n4
   obtain ⟨I,hI⟩:∃ I,I=signI s[k]:=⟨_,rfl⟩
   have HI:Hid (I < 0 ↔ s[k] ∉ signsL):=Lib.hid (by rw [hI];exact signI_neg _)
   rw [← hI] at HSB
   clear hI
   go_cut [50] (fun v wx=>v = .bool (decide (I < 0))∧Hid (Below w2.heap.size w2 wx))
   case first=>
    obtain ⟨d0,d1,g1⟩:=HR2.out
    have l0:=lat_cell d0
    have l1:=lat_cell d1
    refine wp_region_later (by kernel_rfl) (by kernel_rfl) ?_
    repeat (go_big_quiet_step ((go_at_call 138;exact lat_calls_same (HSB.out _))))
    refine wpQuiet_nil ?_
    refine later_out (fun w3 hb3=>?_)
    have HB3:=Lib.hid hb3
    clear l0 l1 d0 d1 g1 hb3
    go_wp2_with fail
    go_meet
    exact ⟨rfl,HB3⟩
   case rest=>
    rename World=>w3
    obtain ⟨rfl,HBW⟩:=hcut
    have HR3:=Lib.hid (HR2.out.later HBW.out)
    have HB3:=Lib.hid (HB2.out.later HBW.out)
    have HG3:=Lib.hid (grown_trans HG2.out (below_grown HBW.out))
    clear HR2 HB2 HG2 HBW HSB
    by_cases hm:s[k] ∈ signsL
    ·have HONE:Hid (signOne l = .tok 6 (l.take 1) 0 1):=Lib.hid (by rw [HONE.out,if_pos hm])
     have hi:decide (I < 0)=false:=decide_eq_false (fun h=>HI.out.1 h hm)
     rw [hi]
     obtain ⟨d0,d1,g1⟩:=HR3.out
     have hw1:=HW1.out
     clear hm hi
     go_upto_region 12 with fail
     have e1:((k + 1:Nat):Int)=(k:Int) + 1:=by omega
     have HR6:=Lib.hid (HR3.out.set (k + 1))
     have HB6:=Lib.hid (HB3.out.else (r:=r) (i:=1) (u:=.int .i64 ((k + 1:Nat):Int)) HNE.out)
     have HG6:=Lib.hid (grown_trans HG3.out (grown_set w3 r 1 (.int .i64 ((k + 1:Nat):Int))))
     rw [e1] at HR6 HB6 HG6
     clear d0 d1 g1 hw1
     generalize w3.setCell ⟨r,1,none⟩ (.int .i64 ((k:Int) + 1))=w6 at *
     obtain ⟨d0,d1,g1⟩:=HR6.out
     rw [e1] at d1
     have l0:=lat_cell d0
     have l1:=lat_cell d1
     have hw0:=HW0.out
     have hw4:=HW4.out
     have hsl:∀ W,(Instr.slice 9 (.string s) (some (.int .i64 (k:Int))) (some (.int .i64 ((k:Int) + 1))) none).run Tryz.prog W = .ok (.string (s.extract k (k + 1))) W:=fun W=>by
      rw [run_slice_string (w:=W) 9 s .i64 .i64 (k:Int) ((k:Int) + 1) Tryz.underlying9 j0 (Int.le_add_one (Int.le_refl _)) j4]
      rfl
     refine wp_region_later_tail 15 (by kernel_rfl) (by kernel_rfl) ?_
     simp only [List.take_succ_cons,List.take_zero,List.drop_succ_cons,List.drop_zero]
     repeat (go_big_quiet_step (fail))
     refine wpQuiet_nil ?_
     refine later_out (fun w7 hb7=>?_)
     have HR7:=Lib.hid (HR6.out.later hb7)
     have HB7:=Lib.hid (HB6.out.later hb7)
     have HG7:=Lib.hid (grown_trans HG6.out (below_grown hb7))
     clear l0 l1 d0 d1 g1 hb7 hw0 hw4 e1
     obtain ⟨c0,c1,c2,c3,f0,f1,f2,f3⟩:=HB7.out
     go_wp2_with fail
     obtain ⟨q0,q1,q2,q3⟩:=filled4 w7 b (.int .u8 6) (.string (s.extract k (k + 1))) (.int .u64 0) (.int .i64 0) HB7.out _ rfl
     rw [HONE.out]
     refine bodyPost_ret (v:=.tuple #[Tk.val ⟨6,s.extract k (k + 1),0,0⟩,.int .i64 0]) (by simp [results,Tryz.results113,go_sem,q0,q1,q2,q3,Tk.val]) rfl ⟨?_,HR7.out.box _ _ _ _ HNE.out,grown_box HG7.out _ _ _ _ HBE.out⟩
     show Ending.returned (.tuple #[.agg #[.int .u8 6,.string (s.extract k (k + 1)),.int .u64 0,.int .i64 0],.int .i64 0]) = .returned (.tuple #[.agg #[.int .u8 6,str (l.take 1),.int .u64 0,.int .i64 0],.int .i64 0])
     rw [HO.out]
    ·have HONE:Hid (signOne l = .bad 6 0):=Lib.hid (by rw [HONE.out,if_neg hm])
     have hi:decide (I < 0)=true:=decide_eq_true (HI.out.2 hm)
     rw [hi]
     obtain ⟨c0,c1,c2,c3,f0,f1,f2,f3⟩:=HB3.out
     clear hm hi
     go_wp2_with fail
     obtain ⟨q0,q1,q2,q3⟩:=filled4 w3 b (.int .u8 0) (.string ⟨#[]⟩) (.int .u64 0) (.int .i64 0) HB3.out _ rfl
     rw [HONE.out]
     refine bodyPost_ret (v:=.tuple #[T0.val,.int .i64 6]) (by simp [results,Tryz.results113,go_sem,q0,q1,q2,q3,Tk.val,T0];try rfl) rfl ⟨rfl,HR3.out.box _ _ _ _ HNE.out,grown_box HG3.out _ _ _ _ HBE.out⟩
set_option maxRecDepth 100000 in
set_option maxHeartbeats 16000000 in
theorem textLexW (r:Nat) (s:ByteArray) (k:Nat) (w:World) (h:RD r s k w) (hs:s.size ≤ 1000000) (hk:k < s.size) :
 Calls Tryz.prog 114 #[.pointer (some ⟨r,0,none⟩),.int .u8 4] w fun e w'=>e = .returned (outV (textOne (s.data.toList.drop k)))∧RD r s (k + lenO (textOne (s.data.toList.drop k))) w'∧w.grownBy w' (some r):=by
 obtain ⟨R,hR⟩:∃ R,R=qscan (s.data.toList.drop (k + 1)):=⟨_,rfl⟩
 have HONE:Hid (textOne (s.data.toList.drop k)=textR (s.size - k) R):=Lib.hid (by rw [textOne_eq,List.drop_drop,← hR,List.length_drop,bytes_list])
 have HR0:=Lib.hid hR
 have HQ0:Hid (QS w r w.heap.size s k (.slice none 0 0) [] (w.alloc (.cells #[.int .u8 0,.string ⟨#[]⟩,.int .u64 0,.int .i64 0] 128))):=Lib.hid (QS.new h _)
 have HRB:Hid (r < w.heap.size):=Lib.hid h.lt
 have HS:=Lib.hid hs
 have HK:=Lib.hid hk
 have HW1:=Lib.hid (wrapI ((k:Int) + 1) (by omega) (by omega))
 clear h hs hk hR
 go_enter Tryz.func114,Tryz.ntmps114
 go_upto_region 1 with fail
 generalize (w.alloc (.cells #[.int .u8 0,.string ⟨#[]⟩,.int .u64 0,.int .i64 0] 128))=w1 at *
 obtain ⟨b,hb⟩:∃ b,b=w.heap.size:=⟨_,rfl⟩
 rw [← hb] at HQ0 HRB ⊢
 have HBE:=Lib.hid (Nat.le_of_eq hb.symm)
 have HNE:Hid (b ≠ r):=Lib.hid (by have:=HRB.out;omega)
 clear hb
 have hw1:=HW1.out
 obtain ⟨⟨d0,d1,g1⟩,-,-,-,-⟩:=HQ0.out
 go_upto_region 3 with fail
 have HQ1:=Lib.hid (HQ0.out.set HRB.out (k + 1) ((k:Int) + 1) (by omega))
 clear d0 d1 g1
 generalize w1.setCell ⟨r,1,none⟩ (.int .i64 ((k:Int) + 1))=w2 at *
 clear hw1
 go_wp2_with fail
 go_loopg [7] (s.size + 1 - (k + 1)) (fun gk ov wr=>∃ (p:Nat) (O:List UInt8),gk=s.size + 1 - p∧p ≤ s.size∧k + 1 ≤ p∧Hid (QS w r b s p ov O wr)∧Hid (R=(qscan (s.data.toList.drop p)).map fun x=>(O ++ x.1,p - (k + 1) + x.2))∧Hid (O.length ≤ p))
 case atStart=>exact ⟨k + 1,[],rfl,HK.out,Nat.le_refl _,HQ1,Lib.hid (by rw [HR0.out];simp),Lib.hid (Nat.zero_le _)⟩
 case round=>
  obtain ⟨p,O,rfl,hp,hkp,HQ,HT,HOL⟩:=hrel
  have HP:=Lib.hid hp
  have HKP:=Lib.hid hkp
  have HSH:=Lib.hid HQ.out.own.shape
  have j0:(0:Int) ≤ (p:Int):=by omega
  by_cases hlt:p < s.size
  ·have j1:(p:Int) < (s.size:Int):=by omega
   have j2:¬ (s.size:Int) ≤ (p:Int):=by omega
   obtain ⟨c,hc,hdr⟩:∃ c,s[p]=c∧s.data.toList.drop p=c :: s.data.toList.drop (p + 1):=⟨_,rfl,drop_cons s hlt⟩
   have HCC:=Lib.hid hc
   have HDR:=Lib.hid hdr
   have HLT:=Lib.hid hlt
   have HWP1:=Lib.hid (wrapI ((p:Int) + 1) (by omega) (by have:=HS.out;omega))
   have HWP2:=Lib.hid (wrapI ((p:Int) + 1 + 1) (by omega) (by have:=HS.out;omega))
   have HPK:Hid (∀ W,RD r s p W→Calls Tryz.prog 111 #[.pointer (some ⟨r,0,none⟩),.int .i64 1] W fun e w'=>e = .returned (byte (topB (s.data.toList.drop (p + 1))))∧Below W.heap.size W w'):=Lib.hid (fun W h=>peek1 r s p W h HS.out HP.out)
   clear hp hkp hdr hc
   go_upto_region 4 with fail
   obtain ⟨⟨d0,d1,g1⟩,-,-,-,-⟩:=HQ.out
   have l0:=lat_cell d0
   have l1:=lat_cell d1
   refine wp_region_later (by kernel_rfl) (by kernel_rfl) ?_
   repeat (go_big_quiet_step (fail))
   refine wpQuiet_nil ?_
   refine later_out (fun w3 hb3=>?_)
   have HQ3:=Lib.hid (HQ.out.later hb3)
   clear l0 l1 d0 d1 g1 hb3
   go_upto_region 6 with fail
   obtain ⟨⟨d0,d1,g1⟩,-,-,-,-⟩:=HQ3.out
   have l0:=lat_cell d0
   have l1:=lat_cell d1
   refine wp_region_later (by kernel_rfl) (by kernel_rfl) ?_
   repeat (go_big_quiet_step (fail))
   refine wpQuiet_nil ?_
   refine later_out (fun w4 hb4=>?_)
   have HQ4:=Lib.hid (HQ3.out.later hb4)
   clear l0 l1 d0 d1 g1 hb4
   rw [HCC.out]
   clear HCC j1 j2
   obtain ⟨d,hd⟩:∃ d,d=topB (s.data.toList.drop (p + 1)):=⟨_,rfl⟩
   rw [← hd] at HPK
   have HD:=Lib.hid hd
   clear hd hlt
   by_cases h39:c=39
   ·subst h39
    by_cases h40:d=39
    ·subst h40
     have HNX:Hid (p + 2 ≤ s.size∧R=(qscan (s.data.toList.drop (p + 2))).map fun x=>(O ++ [39] ++ x.1,p + 2 - (k + 1) + x.2)):=Lib.hid (by
      have hlt2:p + 1 < s.size:=by
       rcases Nat.lt_or_ge (p + 1) s.size with h | h
       ·exact h
       ·exfalso
        have:=HD.out
        rw [drop_end s h] at this
        exact absurd this (by decide)
      have h2:=drop_cons s hlt2
      have h3:s[p + 1]=39:=by
       have:=HD.out
       rw [h2] at this
       exact this.symm
      refine ⟨hlt2,?_⟩
      rw [HT.out,HDR.out,h2,h3,qscan_two,Option.map_map]
      congr 1
      funext x
      have:=HKP.out
      simp
      omega)
     go_wp2_with fail
     refine (HPK.out _ HQ4.out.rd).mono ?_
     rintro e w5 ⟨rfl,hb5⟩
     have HQ5:=Lib.hid (HQ4.out.later hb5)
     clear hb5
     have hwp:=HWP1.out
     obtain ⟨⟨d0,d1,g1⟩,-,-,-,-⟩:=HQ5.out
     go_upto_region 24 with fail
     have HQ6:=Lib.hid (HQ5.out.set HRB.out (p + 1) ((p:Int) + 1) (by omega))
     clear d0 d1 g1
     generalize w5.setCell ⟨r,1,none⟩ (.int .i64 ((p:Int) + 1))=w6 at *
     clear hwp
     have hwp:=HWP2.out
     obtain ⟨ao,co,rfl⟩:=HSH.out
     go_wp2_with (at_builtin;refine wpList_append_x rfl (.tmp 117) (.tmp 119) 63 rfl (b + 1) 5 Num.elem_u8 _ O rfl (.inl (HQ6.out.own.alloc _)) _ [39] rfl (reads_cells w6.heap.size [39] (fun i hi=>by rcases i with _ | i;(go_simp);(simp at hi))) (by simp) (by clear hwp;have:=HOL.out;have:=HS.out;have:=HP.out;simp;omega) (by clear hwp;have:=HQ6.out.sz;simp;omega) ?_;intro v' w9 hown hbel;have HQ9:=Lib.hid (HQ6.out.app (W':=w9) HRB.out (((Below.refl _ w6).alloc HQ6.out.sz (.cells #[byte 39] 5)).trans hbel) hown (by clear hwp;have:=hbel.size;simp at this;omega) HBE.out);obtain ⟨⟨d0,d1,g1⟩,-,-,-,-⟩:=HQ9.out;clear hown hbel)
     go_roundg (s.size + 1 - (p + 2))
     case measure=>have:=HLT.out;omega
     case rel=>exact ⟨p + 2,_,rfl,HNX.out.1,by have:=HKP.out;omega,Lib.hid (HQ9.out.set HRB.out (p + 2) _ (by omega)),HNX.out.2 ▸ Lib.hid rfl,Lib.hid (by have:=HOL.out;simp;omega)⟩
    ·have e40:((d.toNat:Int) != 39)=true:=by
      have:d.toNat ≠ 39:=fun e=>h40 (UInt8.toNat_inj.1 e)
      first | (simp;done) | (simp;omega)
     have HRS:Hid (R=some (O,p - (k + 1) + 1)):=Lib.hid (by
      rw [HT.out,HDR.out,qscan_stop (by rw [← HD.out];exact h40)]
      simp)
     clear h40
     go_wp2_with fail
     refine (HPK.out _ HQ4.out.rd).mono ?_
     rintro e w5 ⟨rfl,hb5⟩
     have HQ5:=Lib.hid (HQ4.out.later hb5)
     clear hb5
     have hwp:=HWP1.out
     obtain ⟨ao,co,rfl⟩:=HSH.out
     obtain ⟨⟨d0,d1,g1⟩,-,-,-,-⟩:=HQ5.out
     go_upto_region 18 with fail
     have HQ6:=Lib.hid (HQ5.out.set HRB.out (p + 1) ((p:Int) + 1) (by omega))
     clear d0 d1 g1
     generalize w5.setCell ⟨r,1,none⟩ (.int .i64 ((p:Int) + 1))=w6 at *
     clear hwp
     by_cases hlong:1000 < O.length
     ·have i1:(1000:Int) < (O.length:Int):=by omega
      have HONE:Hid (textOne (s.data.toList.drop k) = .bad 3 0):=Lib.hid (by rw [HONE.out,HRS.out,textR_long hlong])
      clear hlong
      obtain ⟨⟨d0,d1,g1⟩,-,-,-,-⟩:=HQ6.out
      go_upto_region 20 with fail
      have HQ7:=Lib.hid (HQ6.out.set HRB.out (k) ((k:Int)) (rfl))
      clear d0 d1 g1
      generalize w6.setCell ⟨r,1,none⟩ (.int .i64 ((k:Int)))=w7 at *
      obtain ⟨c0,c1,c2,c3,f0,f1,f2,f3⟩:=HQ7.out.bx
      go_wp2_with fail
      obtain ⟨q0,q1,q2,q3⟩:=filled4 w7 b (.int .u8 0) (.string ⟨#[]⟩) (.int .u64 0) (.int .i64 0) HQ7.out.bx _ rfl
      rw [HONE.out]
      refine bodyPost_ret (v:=.tuple #[T0.val,.int .i64 3]) (by simp [results,Tryz.results114,go_sem,q0,q1,q2,q3,Tk.val,T0];try rfl) rfl ⟨rfl,HQ7.out.rd.box _ _ _ _ HNE.out,grown_box HQ7.out.gr _ _ _ _ HBE.out⟩
     ·have i1:¬ (1000:Int) < (O.length:Int):=by omega
      have HONE:Hid (textOne (s.data.toList.drop k) = .tok 4 O 0 (p - (k + 1) + 1 + 1)):=Lib.hid (by rw [HONE.out,HRS.out,textR_ok hlong])
      have hcv:=convX (P:=Tryz.prog) 63 5 9 Tryz.underlying63 Tryz.underlying5 Tryz.underlying9 (.inl HQ6.out.own)
      clear hlong
      obtain ⟨c0,c1,c2,c3,f0,f1,f2,f3⟩:=HQ6.out.bx
      go_wp2_with fail
      obtain ⟨q0,q1,q2,q3⟩:=filled4 w6 b (.int .u8 4) (str O) (.int .u64 0) (.int .i64 0) HQ6.out.bx _ rfl
      rw [HONE.out]
      refine bodyPost_ret (v:=.tuple #[Tk.val ⟨4,⟨O.toArray⟩,0,0⟩,.int .i64 0]) (by simp [results,Tryz.results114,go_sem,q0,q1,q2,q3,Tk.val]) rfl ⟨rfl,?_,grown_box HQ6.out.gr _ _ _ _ HBE.out⟩
      have hpos:k + lenO (.tok 4 O 0 (p - (k + 1) + 1 + 1))=p + 1:=by have:=HKP.out;show k + (p - (k + 1) + 1 + 1)=p + 1;omega
      rw [hpos]
      exact HQ6.out.rd.box _ _ _ _ HNE.out
   ·have e39:((c.toNat:Int) == 39)=false:=by
     have:c.toNat ≠ 39:=fun e=>h39 (UInt8.toNat_inj.1 e)
     first | (simp;done) | (simp;omega)
    have HNX:Hid (R=(qscan (s.data.toList.drop (p + 1))).map fun x=>(O ++ [c] ++ x.1,p + 1 - (k + 1) + x.2)):=Lib.hid (by
     rw [HT.out,HDR.out,qscan_other h39,Option.map_map]
     congr 1
     funext x
     have:=HKP.out
     simp
     omega)
    clear h39
    have hwp:=HWP1.out
    obtain ⟨ao,co,rfl⟩:=HSH.out
    go_wp2_with (at_builtin;refine wpList_append_x rfl (.tmp 117) (.tmp 119) 63 rfl (b + 1) 5 Num.elem_u8 _ O rfl (.inl (HQ4.out.own.alloc _)) _ [c] rfl (reads_cells w4.heap.size [c] (fun i hi=>by rcases i with _ | i;(go_simp);(simp at hi))) (by simp) (by clear hwp;have:=HOL.out;have:=HS.out;have:=HP.out;simp;omega) (by clear hwp;have:=HQ4.out.sz;simp;omega) ?_;intro v' w9 hown hbel;have HQ9:=Lib.hid (HQ4.out.app (W':=w9) HRB.out (((Below.refl _ w4).alloc HQ4.out.sz (.cells #[byte c] 5)).trans hbel) hown (by clear hwp;have:=hbel.size;simp at this;omega) HBE.out);obtain ⟨⟨d0,d1,g1⟩,-,-,-,-⟩:=HQ9.out;clear hown hbel)
    go_roundg (s.size + 1 - (p + 1))
    case measure=>have:=HLT.out;omega
    case rel=>exact ⟨p + 1,_,rfl,HLT.out,by have:=HKP.out;omega,Lib.hid (HQ9.out.set HRB.out (p + 1) _ (by omega)),HNX.out ▸ Lib.hid rfl,Lib.hid (by have:=HOL.out;simp;omega)⟩
  ·obtain rfl:p=s.size:=by omega
   have j2:(s.size:Int) ≤ (s.size:Int):=by omega
   have HONE:Hid (textOne (s.data.toList.drop k) = .bad 6 (s.size - k)):=Lib.hid (by
    rw [HONE.out,HT.out,drop_end s (Nat.le_refl _)]
    rfl)
   clear hlt hp hkp
   go_upto_region 4 with fail
   obtain ⟨⟨d0,d1,g1⟩,-,-,-,-⟩:=HQ.out
   have l0:=lat_cell d0
   have l1:=lat_cell d1
   refine wp_region_later (by kernel_rfl) (by kernel_rfl) ?_
   repeat (go_big_quiet_step (fail))
   refine wpQuiet_nil ?_
   refine later_out (fun w3 hb3=>?_)
   have HQ3:=Lib.hid (HQ.out.later hb3)
   clear l0 l1 d0 d1 g1 hb3
   obtain ⟨c0,c1,c2,c3,f0,f1,f2,f3⟩:=HQ3.out.bx
   go_wp2_with fail
   obtain ⟨q0,q1,q2,q3⟩:=filled4 w3 b (.int .u8 0) (.string ⟨#[]⟩) (.int .u64 0) (.int .i64 0) HQ3.out.bx _ rfl
   rw [HONE.out]
   refine bodyPost_ret (v:=.tuple #[T0.val,.int .i64 6]) (by simp [results,Tryz.results114,go_sem,q0,q1,q2,q3,Tk.val,T0];try rfl) rfl ⟨rfl,(show RD r s (k + (s.size - k)) w3 by rw [show k + (s.size - k)=s.size by have:=HKP.out;omega];exact HQ3.out.rd).box _ _ _ _ HNE.out,grown_box HQ3.out.gr _ _ _ _ HBE.out⟩
open Go.RowKit
def hexI (c:UInt8):Int:=match hexV c with | some n=>(n:Int) | none=>-1
theorem hexI_some {c:UInt8} {n:Nat} (h:hexV c=some n):hexI c=(n:Int):=by unfold hexI;rw [h]
theorem hexI_none {c:UInt8} (h:hexV c=none):hexI c = -1:=by unfold hexI;rw [h]
theorem or16 (a b:Nat) (ha:a < 16) (hb:b < 16):bits BinOp.or IntKind.i64 ((a:Int) * 16) (b:Int)=((16 * a + b:Nat):Int):=by
 have h:∀ x y:Fin 16,bits BinOp.or IntKind.i64 (((x.val:Nat):Int) * 16) ((y.val:Nat):Int)=((16 * x.val + y.val:Nat):Int):=by decide +kernel
 exact h ⟨a,ha⟩ ⟨b,hb⟩
end Go.Proofs.YtmdogmpcmkfjpaaGreatDoor.Dt
