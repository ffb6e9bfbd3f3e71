import Derived.Test.YtmdogmpcmkfjpaaGreatDoorTie
import Derived.Test.YtmdogmpcmkfjpaaGreatDoorCards
import Derived.SevenTiedAt
import Derived.Stop.Joined
import Derived.Deep.DeepCutAuto
import Derived.Test.YtmdogmpcmkfjpaaGreatDoorBj09
import Derived.Test.YtmdogmpcmkfjpaaGreatDoorBj46
import Derived.Test.YtmdogmpcmkfjpaaGreatDoorBj05
import Derived.Test.YtmdogmpcmkfjpaaGreatDoorBj51
/- ParseJoins: the law returns true at every input. -/
namespace Go.Proofs.YtmdogmpcmkfjpaaGreatDoor.ParseJoins
open Go.ChangeShapes Go.WideShapes Go.ChangeAt Go.RowKit Go.Proofs.YtmdogmpcmkfjpaaGreatDoor.By
set_option linter.unusedVariables false
open Go.Proofs.YtmdogmpcmkfjpaaGreatDoor.Dt Go.Proofs.YtmdogmpcmkfjpaaGreatDoor.By
theorem two_fit {s t:List UInt8} {A B:List PSt} (hA:scriptL s = .inr A) (hB:scriptL t = .inr B):∀ x ∈ A ++ B,FFit x:=fun x hx=>by
 rcases List.mem_append.1 hx with h | h
 ·exact st_fit (script_good hA x h) (script_eat hA x h)
 ·exact st_fit (script_good hB x h) (script_eat hB x h)
attribute [local go_sem ↓] veilSt_sm veilLd_sm
set_option maxRecDepth 100000 in
set_option maxHeartbeats 32000000 in
theorem walk (s t:ByteArray) (w:World) (hw:LX w) (hs:s.size ≤ 140737488351232) (ht:t.size ≤ 140737488351232) :
 Calls Tryz.prog 4 #[.string s,.string t] w fun e w'=>e = .returned (.bool true)∧Below w.heap.size w w':=by
 have HW:=Lib.hid hw
 have HS:=Lib.hid hs
 have HT:=Lib.hid ht
 have HWK:=Lib.hid (worksL w hw)
 clear hw hs ht
 go_enter Tryz.func4,Tryz.ntmps4
 go_wp2_with fail
 refine HWK.out.mono ?_
 rintro e w1 ⟨rfl,hb1⟩
 have HB1:=Lib.hid hb1
 clear hb1 HWK
 by_cases hl1:8192 < s.size
 ·have i1:(8192:Int) < (s.size:Int):=by omega
  clear hl1
  go_wp2_with fail
  go_ret
  exact ⟨rfl,HB1.out⟩
 have i1:¬ (8192:Int) < (s.size:Int):=by omega
 by_cases hl2:8192 < t.size
 ·have i2:(8192:Int) < (t.size:Int):=by omega
  clear hl1 hl2
  go_wp2_with fail
  go_ret
  exact ⟨rfl,HB1.out⟩
 have i2:¬ (8192:Int) < (t.size:Int):=by omega
 have HL1:=Lib.hid hl1
 have HL2:=Lib.hid hl2
 have HE1:=Lib.hid (scriptB s w1 (HW.out.later HB1.out) HS.out)
 clear hl1 hl2
 go_wp2_with fail
 refine HE1.out.mono ?_
 rintro e w2 ⟨hp1,hb2⟩
 obtain ⟨va,en1,ea1,rfl,hca⟩:=scPost_any hp1
 have hba:Below w2.heap.size w2 (w2.alloc (.cells #[.int .i64 en1,.int .i64 ea1] 39)):=(Below.refl _ _).alloc (Nat.le_refl _) _
 have HR1:=Lib.hid (row_alloc w2 39 #[.int .i64 en1,.int .i64 ea1])
 have hca:=hca.imp id (fun ⟨l,e1,e2,e3,e4⟩=>(⟨l,e1,e2,e3,New.below e4 hba⟩:∃ l:List PSt,scriptL s.data.toList=Sum.inr l∧en1=0∧ea1=0∧New w1.heap.size _ (fun u=>SlR 16 StR u va l)))
 have HB3:=Lib.hid (next (next HB1.out hb2) hba)
 clear hp1 hba hb2 HE1
 go_upto_region 6 with fail
 generalize w2.alloc (.cells #[.int .i64 en1,.int .i64 ea1] 39)=w3 at *
 generalize w2.heap.size=k1 at *
 have HCA:=Lib.hid hca
 have HE2:=Lib.hid (scriptB t w3 (HW.out.later HB3.out) HT.out)
 clear hca
 go_wp2_with fail
 refine HE2.out.mono ?_
 rintro e w4 ⟨hp2,hb4⟩
 obtain ⟨vb,en2,ea2,rfl,hcb⟩:=scPost_any hp2
 have hbc:Below w4.heap.size w4 (w4.alloc (.cells #[.int .i64 en2,.int .i64 ea2] 39)):=(Below.refl _ _).alloc (Nat.le_refl _) _
 have hca:=HCA.out.imp id (fun ⟨l,e1,e2,e3,e4⟩=>(⟨l,e1,e2,e3,New.below (New.below e4 hb4) hbc⟩:∃ l:List PSt,scriptL s.data.toList=Sum.inr l∧en1=0∧ea1=0∧New w1.heap.size _ (fun u=>SlR 16 StR u va l)))
 have hcb:=hcb.imp id (fun ⟨l,e1,e2,e3,e4⟩=>(⟨l,e1,e2,e3,New.below e4 hbc⟩:∃ l:List PSt,scriptL t.data.toList=Sum.inr l∧en2=0∧ea2=0∧New w3.heap.size _ (fun u=>SlR 16 StR u vb l)))
 have HR2:=Lib.hid (row_alloc w4 39 #[.int .i64 en2,.int .i64 ea2])
 have HR3:=Lib.hid ((HR1.out.later hb4).later hbc)
 have HB5:=Lib.hid (next HB3.out (next hb4 hbc))
 clear hp2 hbc hb4 HE2 HCA HR1
 go_upto_region 7 with fail
 generalize w4.alloc (.cells #[.int .i64 en2,.int .i64 ea2] 39)=w5 at *
 generalize w4.heap.size=k2 at *
 have s0:=HR3.out.cell (i:=0) (v:=.int .i64 en1) rfl
 have s1:=HR3.out.cell (i:=1) (v:=.int .i64 ea1) rfl
 have r0:=HR2.out.cell (i:=0) (v:=.int .i64 en2) rfl
 have r1:=HR2.out.cell (i:=1) (v:=.int .i64 ea2) rfl
 rcases hca with ⟨z,a,hz,rfl,rfl,hne⟩ | ⟨A,hA,rfl,rfl,hna⟩
 ·have qs:∀ W,(binOp .neq 39 (.agg #[.int .i64 (z:Int),.int .i64 ea1]) (.agg #[.int .i64 0,.int .i64 0])).run Tryz.prog W = .ok (.bool true) W:=fun W=>neq_toldS (z:Int) 0 ea1 0 true (by simp;omega) W
  clear hz hne hcb
  go_wp2_with fail
  go_ret
  exact ⟨rfl,HB5.out⟩
 have qz:∀ W,(binOp .neq 39 (.agg #[.int .i64 0,.int .i64 0]) (.agg #[.int .i64 0,.int .i64 0])).run Tryz.prog W = .ok (.bool false) W:=fun W=>neq_toldS 0 0 0 0 false (by simp) W
 rcases hcb with ⟨z,a,hz,rfl,rfl,hne⟩ | ⟨B,hB,rfl,rfl,hnb⟩
 ·have qs:∀ W,(binOp .neq 39 (.agg #[.int .i64 (z:Int),.int .i64 ea2]) (.agg #[.int .i64 0,.int .i64 0])).run Tryz.prog W = .ok (.bool true) W:=fun W=>neq_toldS (z:Int) 0 ea2 0 true (by simp;omega) W
  clear hz hne hna hA
  go_wp2_with fail
  go_ret
  exact ⟨rfl,HB5.out⟩
 have hw1:wrap64 ((s.size:Int) + (t.size:Int))=(s.size:Int) + (t.size:Int):=by have:=HL1.out;have:=HL2.out;unfold wrap64;omega
 have hw2:wrap64 ((s.size:Int) + (t.size:Int) + 3)=(s.size:Int) + (t.size:Int) + 3:=by have:=HL1.out;have:=HL2.out;unfold wrap64;omega
 by_cases hl3:4096 < s.size + t.size + 3
 ·have i3:(4096:Int) < (s.size:Int) + (t.size:Int) + 3:=by omega
  clear hA hB hna hnb hl3
  go_wp2_with fail
  go_ret
  exact ⟨rfl,HB5.out⟩
 have i3:¬ (4096:Int) < (s.size:Int) + (t.size:Int) + 3:=by omega
 have HL3:=Lib.hid hl3
 have HSA:=Lib.hid hna.here
 have HSB:=Lib.hid hnb.here
 have HFT:=Lib.hid (two_fit hA hB)
 have HJ:=Lib.hid (joins hA hB (by rw [ba_len,ba_len];omega))
 have HZ:Hid (A.length ≤ 4096∧B.length ≤ 4096):=Lib.hid ⟨script_short hA,script_short hB⟩
 clear hA hB hna hnb hl3
 go_upto_region 9 with fail
 clear s0 s1 r0 r1 hw1 hw2 i3 HR2 HR3
 have ha1:∀ W,(Op.stringOp .add s ⟨#[10,59,10]⟩).run Tryz.prog W = .ok (.string (s ++ ⟨#[10,59,10]⟩)) W:=fun W=>run_string_add_sum (P:=Tryz.prog) W _ _ (by have:=HL1.out;show s.size + 3 ≤ _;omega)
 obtain ⟨T1,hT1⟩:∃ z:ByteArray,z=s ++ ⟨#[10,59,10]⟩:=⟨_,rfl⟩
 have hz1:T1.size=s.size + 3:=by rw [hT1];simp [ByteArray.size_append];rfl
 rw [← hT1] at ha1
 have ha2:∀ W,(Op.stringOp .add T1 t).run Tryz.prog W = .ok (.string (T1 ++ t)) W:=fun W=>run_string_add_sum (P:=Tryz.prog) W _ _ (by have:=HL1.out;have:=HL2.out;omega)
 obtain ⟨T2,hT2⟩:∃ z:ByteArray,z=T1 ++ t:=⟨_,rfl⟩
 rw [← hT2] at ha2
 have HT2:Hid (T2.data.toList=s.data.toList ++ 10 :: 59 :: 10 :: t.data.toList):=Lib.hid (by rw [hT2,hT1];simp [ByteArray.data_append])
 have hz2:T2.size=s.size + 3 + t.size:=by rw [hT2];simp [ByteArray.size_append];omega
 have HE3:=Lib.hid (scriptB T2 w5 (HW.out.later HB5.out) (by have:=HL1.out;have:=HL2.out;omega))
 clear hT1 hT2 hz1 hz2
 go_wp2_with fail
 refine HE3.out.mono ?_
 rintro e w6 ⟨hp3,hb6⟩
 obtain ⟨vc,en3,ea3,rfl,hcc⟩:=scPost_any hp3
 rw [HT2.out] at hcc
 have hbd:Below w6.heap.size w6 (w6.alloc (.cells #[.int .i64 en3,.int .i64 ea3] 39)):=(Below.refl _ _).alloc (Nat.le_refl _) _
 have hcc:=hcc.imp id (fun ⟨l,e1,e2,e3,e4⟩=>(⟨l,e1,e2,e3,New.below e4 hbd⟩:∃ l:List PSt,scriptL (s.data.toList ++ 10 :: 59 :: 10 :: t.data.toList)=Sum.inr l∧en3=0∧ea3=0∧New w5.heap.size _ (fun u=>SlR 16 StR u vc l)))
 have HR4:=Lib.hid (row_alloc w6 39 #[.int .i64 en3,.int .i64 ea3])
 have HB7:=Lib.hid (next hb6 hbd)
 have HGE:Hid (w5.heap.size ≤ w6.heap.size):=Lib.hid hb6.size
 have HCC:=Lib.hid hcc
 clear hp3 hb6 hbd hcc HE3 ha1 ha2
 go_upto_region 10 with fail
 generalize w6.alloc (.cells #[.int .i64 en3,.int .i64 ea3] 39)=w7 at *
 generalize w6.heap.size=k3 at *
 have s0:=HR4.out.cell (i:=0) (v:=.int .i64 en3) rfl
 have s1:=HR4.out.cell (i:=1) (v:=.int .i64 ea3) rfl
 have f0:w7.frozen? ⟨k3,0,none⟩=false:=frz HR4.out 0
 have f1:w7.frozen? ⟨k3,1,none⟩=false:=frz HR4.out 1
 obtain ⟨bz,hbz,qb⟩:∃ bz:Bool,((bz=true) ↔ ¬ (en3=0∧ea3=0))∧∀ W,(binOp .neq 39 (.agg #[.int .i64 en3,.int .i64 ea3]) (.agg #[.int .i64 0,.int .i64 0])).run Tryz.prog W = .ok (.bool bz) W:=
  ⟨decide (¬ (en3=0∧ea3=0)),by rw [decide_eq_true_eq],fun W=>neq_toldS en3 0 ea3 0 _ (by simp) W⟩
 have HBZ:=Lib.hid hbz
 clear hbz
 go_upto_if 60 with fail
 go_cut [9] (fun sv wx=>Hid (SlR 16 StR wx sv (A ++ B))∧Hid (Below w5.heap.size w5 wx)∧Hid (Row k3 39 #[.int .i64 0,.int .i64 0] wx))
 case first=>
  rcases HCC.out with ⟨z,a,hz,rfl,rfl,hne⟩ | ⟨l,hl,rfl,rfl,hnc⟩
  ·have HJ2:Hid (scriptL (s.data.toList ++ 10 :: t.data.toList) = .inr (A ++ B)):=Lib.hid (by
    rcases HJ.out with h | h
    ·rw [h] at hz;cases hz
    ·exact h.2)
   have hb1:bz=true:=HBZ.out.2 (by omega)
   subst hb1
   have ha1:∀ W,(Op.stringOp .add s ⟨#[10]⟩).run Tryz.prog W = .ok (.string (s ++ ⟨#[10]⟩)) W:=fun W=>run_string_add_sum (P:=Tryz.prog) W _ _ (by have:=HL1.out;show s.size + 1 ≤ _;omega)
   obtain ⟨T3,hT3⟩:∃ z:ByteArray,z=s ++ ⟨#[10]⟩:=⟨_,rfl⟩
   have hz1:T3.size=s.size + 1:=by rw [hT3];simp [ByteArray.size_append];rfl
   rw [← hT3] at ha1
   have ha2:∀ W,(Op.stringOp .add T3 t).run Tryz.prog W = .ok (.string (T3 ++ t)) W:=fun W=>run_string_add_sum (P:=Tryz.prog) W _ _ (by have:=HL1.out;have:=HL2.out;omega)
   obtain ⟨T4,hT4⟩:∃ z:ByteArray,z=T3 ++ t:=⟨_,rfl⟩
   rw [← hT4] at ha2
   have HT4:Hid (T4.data.toList=s.data.toList ++ 10 :: t.data.toList):=Lib.hid (by rw [hT4,hT3];simp [ByteArray.data_append])
   have hz2:T4.size=s.size + 1 + t.size:=by rw [hT4];simp [ByteArray.size_append];omega
   have h4:=scriptB T4 w7 (HW.out.later (next HB5.out HB7.out)) (by have:=HL1.out;have:=HL2.out;omega)
   rw [HT4.out,HJ2.out] at h4
   have HE4:=Lib.hid h4
   clear hT3 hT4 hz1 hz2 hz hne h4
   go_wp2_with fail
   refine HE4.out.mono ?_
   rintro e w8 ⟨⟨vd,rfl,hnd⟩,hb8⟩
   have hk8:k3 < w7.heap.size:=HR4.out.lt
   have hr8:=HR4.out.later hb8
   have f0:w8.frozen? ⟨k3,0,none⟩=false:=frz hr8 0
   have f1:w8.frozen? ⟨k3,1,none⟩=false:=frz hr8 1
   have t0:=hr8.cell (i:=0) (v:=.int .i64 (z:Int)) rfl
   have t1:=hr8.cell (i:=1) (v:=.int .i64 ea3) rfl
   clear HE4 ha1 ha2 qb s0 s1
   go_wp2_with fail
   go_meet
   have hf:=fin_1 (a:=.int .i64 0) (b:=.int .i64 0) hr8
   exact ⟨Lib.hid (hnd _ fun b h1 _=>hf.ot b (by omega)),Lib.hid ((next HB7.out hb8).trans (hf.bl _ HGE.out)),Lib.hid hf.r1⟩
  ·have HE:Hid (l=A ++ B):=Lib.hid (by
    rcases HJ.out with h | ⟨⟨e,a,h,_⟩,_⟩
    ·rw [h] at hl;cases hl;rfl
    ·rw [h] at hl;cases hl)
   clear hl
   have HD:=Lib.hid hnc.here
   rw [HE.out] at HD
   have hb1:bz=false:=by
    cases bz with
    | false=>rfl
    | true=>exact absurd ⟨rfl,rfl⟩ (HBZ.out.1 rfl)
   subst hb1
   clear hnc
   go_wp2_with fail
   go_meet
   exact ⟨HD,HB7,HR4⟩
 case rest=>
  obtain ⟨HD,HX,HR⟩:=hcut
  clear HCC s0 s1 f0 f1 HR4 HB7 HJ qb HBZ
  have hsl:∀ {W W':World} {v:Value} {l:List PSt},SlR 16 StR W v l→Below W.heap.size W W'→SlR 16 StR W' v l:=fun h hb=>SlR.below h hb fun _ _ h=>stR_below h hb
  have hEL:(A ++ B).length=A.length + B.length:=List.length_append
  generalize hE:A ++ B=E at *
  have HEE:=Lib.hid hE
  obtain ⟨da,dc,rfl,_⟩:=HD.out.shape
  obtain ⟨aa,ac,rfl,_⟩:=HSA.out.shape
  obtain ⟨ba,bc,rfl,_⟩:=HSB.out.shape
  have s0:=HR.out.cell (i:=0) (v:=.int .i64 0) rfl
  have s1:=HR.out.cell (i:=1) (v:=.int .i64 0) rfl
  have hw:wrap64 ((A.length:Int) + (B.length:Int))=(E.length:Int):=by have:=HZ.out;unfold wrap64;omega
  have HLN:Hid (E.length ≤ 8192):=Lib.hid (by have:=HZ.out;omega)
  clear hE hEL
  go_upto_region 14 with fail
  obtain ⟨v1,w9,v2,w10,r1,r2,hD2,hb10⟩:=rows_two (hsl HSA.out HX.out) (hsl HSB.out HX.out) (by have:=HZ.out;omega) 37 37
  rw [HEE.out] at hD2
  obtain ⟨ua,uc,rfl,_⟩:=hD2.shape
  have HD2:=Lib.hid hD2
  have HD1:=Lib.hid (hsl HD.out hb10)
  have HB10:=Lib.hid (next (next HB5.out HX.out) hb10)
  clear s0 s1 hw HR HX HSA HSB HD hD2 hb10
  go_upto_region 15 with (at_builtin;first | (refine list_run rfl (.tmp 82) (.tmp 83) 37 rfl rfl rfl r1 ?_) | (refine list_run rfl (.tmp 84) (.tmp 85) 37 rfl rfl rfl r2 ?_))
  clear r1 r2
  go_loopg [88] E.length (fun gk iv wr=>∃ (i:Nat),iv = .int .i64 (i:Int)∧gk=E.length - i∧i ≤ E.length∧Hid (Below w10.heap.size w10 wr))
  case atStart=>exact ⟨0,rfl,rfl,Nat.zero_le _,Lib.hid (Below.refl _ _)⟩
  case round=>
   obtain ⟨i,rfl,rfl,hi,HBL⟩:=hrel
   by_cases hlt:i < E.length
   ·obtain ⟨x,hx⟩:∃ z,E[i]? = some z:=⟨E[i],by simp⟩
    obtain ⟨b1,o1,c1,rfl,l1,st1,hc1⟩:=(hsl HD2.out HBL.out).get hx
    obtain ⟨b2,o2,c2,rfl,l2,st2,hc2⟩:=(hsl HD1.out HBL.out).get hx
    have hl:=run_smLdAt wr b1 (o1 + i * 16) c1 l1 hc1
    have hst:=run_smNew wr stZ c1.toArray 31 rfl (okRow_iff.2 ⟨by rw [List.size_toArray];exact l1,Array.all_eq_true_iff_forall_mem.2 fun u hu=>(stCells _ _ _ st1).2 u (by simpa using hu)⟩)
    have hbx:Below wr.heap.size wr (wr.alloc (.cells c1.toArray 31)):=(Below.refl _ _).alloc (Nat.le_refl _) _
    have hrx:=row_alloc wr 31 c1.toArray
    have HC:Hid (∀ W,Below (wr.alloc (.cells c1.toArray 31)).heap.size (wr.alloc (.cells c1.toArray 31)) W→Calls Tryz.prog 12 #[.agg c2.toArray,.agg c1.toArray] W fun e w'=>e = .returned (.bool true)∧Below W.heap.size W w'):=
     Lib.hid (fun W hW=>sameStL x c2 c1 W (stR_below st2 (next hbx hW)) (stR_below st1 (next hbx hW)) (HFT.out x (List.mem_of_getElem? hx)))
    have hl2:∀ e:Later (wr.alloc (.cells c1.toArray 31)),(veilLd 31 ⟨b2,o2 + i * 16,none⟩).run Tryz.prog (lat _ e) = .ok (.agg c2.toArray) (lat _ e):=
     fun e=>run_smLdAt _ _ _ c2 l2 (fun j u hj=>((next hbx (lat_below _ e)).cell (cell_lt (hc2 j u hj))).trans (hc2 j u hj))
    have hl3:∀ e:Later (wr.alloc (.cells c1.toArray 31)),(veilLd 31 ⟨wr.heap.size,0,none⟩).run Tryz.prog (lat _ e) = .ok (.agg c1.toArray) (lat _ e):=by
     obtain ⟨fs,hu⟩:=sm_struct
     exact fun e=>run_veilLd hu sm_size (lat _ e) wr.heap.size c1.toArray _ (hrx.later (lat_below _ e)) (by rw [List.size_toArray];exact l1)
    have HBX:=Lib.hid hbx
    have ilt:(i:Int) < (E.length:Int):=by omega
    have ige:(0:Int) ≤ (i:Int):=by omega
    have HLT:=Lib.hid hlt
    clear hx l1 l2 st1 st2 hc1 hc2 hbx hrx hlt
    go_upto_region 17 with fail
    clear hl hst
    generalize wr.alloc (.cells c1.toArray 31)=wx at *
    refine wp_region_later (by kernel_rfl) (by kernel_rfl) ?_
    repeat (go_big_quiet_step (exact lat_calls (HC.out _ (lat_below _ _))))
    refine wpQuiet_nil ?_
    refine later_out (fun wy hby=>?_)
    have HBY:=Lib.hid (next HBL.out (next HBX.out hby))
    clear hl2 hl3 hby
    go_wp2_with fail
    go_roundg (E.length - (i + 1))
    case measure=>exact Nat.sub_lt_sub_left HLT.out (Nat.lt_succ_self _)
    case rel=>exact ⟨i + 1,wrap_next (by have h1:=HLN.out;have h2:=HLT.out;omega),rfl,HLT.out,HBY⟩
   ·obtain rfl:i=E.length:=by omega
    have HBZ:=Lib.hid (next HB10.out HBL.out)
    clear hlt hi
    go_wp2_with fail
    go_ret
    exact ⟨rfl,HBZ.out⟩
theorem own:ownKnob Tryz.prog.godebug=none:=by kernel_rfl
theorem laid:laidOutB Tryz.prog=true:=by kernel_rfl
def laidD:List (String × DataW Unit):=[("math/bits.deBruijn32tab",Rows.laid_math_bits_deBruijn32tab),("math/bits.deBruijn64tab",Rows.laid_math_bits_deBruijn64tab),("internal/strconv.uint64pow10",Rows.laid_internal_strconv_uint64pow10),("unicode/utf8.acceptRanges",Rows.laid_unicode_utf8_acceptRanges),("strconv.ErrRange",Rows.laid_strconv_ErrRange),("strconv.ErrSyntax",Rows.laid_strconv_ErrSyntax),("unicode.White_Space",Rows.laid_unicode_White_Space),("strings.asciiSpace",Rows.laid_strings_asciiSpace),("unicode/utf8.first",Rows.laid_unicode_utf8_first)]
theorem tied {ps qs:Array TypeId} {j:Nat} {t:TypeId} (_:ps=qs) (hall:(ps.all fun u=>!Tryz.prog.wantsStandIn u)=true) (ht:ps[j]? = some t):Tryz.prog.wantsStandIn t=false:=by
 obtain ⟨hj,rfl⟩:=Array.getElem?_eq_some_iff.1 ht
 have:=Array.all_eq_true.1 hall j hj
 simpa using this
set_option maxRecDepth 100000 in
theorem opened {H:Type} (enc:TypeId × Value→H) (W:World) (args:Array Value) (ds:List (DataW H)) (p:List MemPlace) (hsh:W.ShapedOpen Tryz.prog) (hL:laidMetH Tryz.prog laidD W) :
 Lift.Owes enc Tryz.prog 4 Tryz.f4.params.toList W args ds p:=by
 have HL:=Lib.hid hL
 clear hL
 intro hA hval hsz _
 rw [Tryz.params4] at hA hval hsz
 obtain ⟨v0,vs0,d0,ds0,p0,q0,hargs,rfl,rfl,h0,r0⟩:=trodAll_cons hA
 obtain ⟨v1,vs1,d1,ds1,p1,q1,rfl,rfl,rfl,h1,r1⟩:=trodAll_cons r0
 obtain ⟨rfl,rfl,rfl⟩:=trodAll_nil r1
 obtain rfl:args = #[v0,v1]:=by cases args;simp_all
 obtain ⟨base0,hv0⟩:=hval 0 _ v0 rfl rfl
 obtain ⟨s0,rfl,rfl,rfl,ws0⟩:=ChangeMaps.open_string Tryz.underlying9 hv0 h0
 have z0:=sized_string hsz (j:=0) rfl rfl
 simp only [reachBytes,Array.length_toList] at z0
 obtain ⟨base1,hv1⟩:=hval 1 _ v1 rfl rfl
 obtain ⟨s1,rfl,rfl,rfl,ws1⟩:=ChangeMaps.open_string Tryz.underlying9 hv1 h1
 have z1:=sized_string hsz (j:=1) rfl rfl
 simp only [reachBytes,Array.length_toList] at z1
 exact walk s0 s1 W (lx9 hsh HL.out) z0 z1
set_option maxRecDepth 100000 in
theorem lifted (os:Os) (started:os.Started) (H:Type) (enc:TypeId × Value→H) :
 ReturnsInHanded {} Tryz.checked os 4 .any (fun w args=>(Rows.parseJoinsSpec.pre enc Tryz.prog Tryz.f4 [] false w args∧laidMetH Tryz.prog laidD w)∧sizedMet enc Tryz.prog Tryz.f4 (OpenSpec.ofChange Rows.parseJoinsSpec) false w args)
  (Rows.parseJoinsSpec.post enc Tryz.prog Tryz.f4 false true false false):=by
 refine Lift.liftedD (C:=Tryz.checked) (X:=fun w _=>laidMetH Tryz.prog laidD w) (fun _ _ _ hh h=>h.of_heap hh) own started (by kernel_rfl) Tryz.func4
  (ChangeSpec.witness_shaped (enc:=enc) (C:=Tryz.checked) (os:=os) (X:=fun w _=>laidMetH Tryz.prog laidD w) false (World.laidAll Tryz.prog os laidD) #[.string ByteArray.empty,.string ByteArray.empty] 8 (World.laidAll_os _ _ _)
   (World.shaped_of_ZipB (by kernel_rfl) (by kernel_rfl)) (by kernel_rfl) (by kernel_rfl) (by kernel_rfl)
   (by rw [MakeChecks.laidMetH_plain _ _ _ (by kernel_rfl)];exact laidMet_laidAll _ (by kernel_rfl) (by kernel_rfl)))
  laid (by rw [Tryz.params4];intro t ht;simp at ht;rcases ht with rfl | rfl <;> exact ⟨by kernel_rfl,of_decide_eq_true (by kernel_rfl)⟩) rfl 4 rfl Tryz.underlying4
  (fun ds hds=>by match ds,hds with | [_,_],_=>rfl) (fun W args ds p hsh hL=>opened enc W args ds p hsh hL)
theorem row_said:Rows.ParseJoinsSaid:=
 OpenClaim.holds_of_wide 4 Tryz.f4 rfl rfl rfl rfl rfl rfl rfl ⟨rfl,rfl,rfl,rfl,rfl⟩ rfl rfl rfl rfl rfl (by kernel_rfl) Tryz.func4 (by kernel_rfl)
  (of_decide_eq_true (by kernel_rfl)) (by unfold Func.isWrapper;first | (rw [if_pos (by decide +kernel)];kernel_rfl) | (rw [if_neg (by decide +kernel)];exact ⟨rfl,rfl⟩))
  (fun os started H enc _=>lifted os started H enc)
theorem said:Rows.ParseJoinsCardSaid:=
 Claim7.holds_tied_plain_at .later [] [.data,.data,.data,.data,.sentinel,.sentinel,.listed,.data,.pinned] true (true,"e206e580c90a220dfe92bca72650be5753380b0d5437542a0264290c58ef9a3d") true
  row_said (fun _ h=>by cases h) (by kernel_rfl) (fun _ h=>by cases h) parseJoins_row_tie rfl ⟨rfl,rfl⟩ (by kernel_rfl) rfl
  (fun f fn hf hfn=>by
   obtain rfl:f=4:=Option.some.inj ((show Tryz.prog.funcNamed "counterfoil/counterfoillaw14.ParseJoins" = some 4 by kernel_rfl).symm.trans hf) |>.symm
   obtain rfl:fn=Tryz.f4:=(Option.some.inj (Tryz.func4.symm.trans hfn)).symm
   exact ⟨by kernel_rfl,fun j t ht=>by
    rw [Tryz.params4] at ht
    exact tied Tryz.params4.symm (by kernel_rfl) ht⟩)
  (by kernel_rfl)
#print axioms said
end Go.Proofs.YtmdogmpcmkfjpaaGreatDoor.ParseJoins
