import Derived.Deep.DeepCutAuto
import Derived.Test.YtmdogmpcmkfjpaaGreatDoorBn38
import Derived.Test.YtmdogmpcmkfjpaaGreatDoorBn39
import Derived.Test.YtmdogmpcmkfjpaaGreatDoorBn40
import Derived.Test.YtmdogmpcmkfjpaaGreatDoorBn09
/- Part of the proof (merged). -/
namespace Go.Proofs.YtmdogmpcmkfjpaaGreatDoor.Dt
open Go.Lib
def knA:PE:=(PE.node 6 [(PE.val1 ⟨1,1,⟨#[]⟩⟩),PE.node 8 [(PE.val1 ⟨1,2,⟨#[]⟩⟩),(PE.val1 ⟨1,3,⟨#[]⟩⟩)]])
def knB:PE:=(PE.node 8 [PE.node 6 [(PE.val1 ⟨1,1,⟨#[]⟩⟩),(PE.val1 ⟨1,2,⟨#[]⟩⟩)],(PE.val1 ⟨1,3,⟨#[]⟩⟩)])
def knX1:PE:=(PE.val1 ⟨1,-5,⟨#[]⟩⟩)
def knX2:PE:=(PE.node 3 [(PE.val1 ⟨1,5,⟨#[]⟩⟩)])
def knX3:PE:=(PE.node 3 [PE.node 3 [(PE.mk 2 V00 ⟨#[]⟩ ⟨#[97]⟩ 0 [])]])
def knS:PSt:={ kind:=1,table:=⟨#[116]⟩,cols:=[{ name:=⟨#[97]⟩,ty:=1,nn:=false }],key:=[⟨#[97]⟩] }
theorem kn_a:exprL (ByteArray.data ⟨#[49,32,43,32,50,32,42,32,51]⟩).toList = .inr knA:=by kernel_rfl
theorem kn_b:exprL (ByteArray.data ⟨#[40,49,32,43,32,50,41,32,42,32,51]⟩).toList = .inr knB:=by kernel_rfl
theorem kn_e1:exprL (ByteArray.data ⟨#[97,32,73,83,32,78,79,84,32,78,85,76,76,32,61,32,49]⟩).toList = .inl (6,14):=by kernel_rfl
theorem kn_e2:exprL (ByteArray.data ⟨#[49,32,61,32,50,32,61,32,51]⟩).toList = .inl (6,6):=by kernel_rfl
theorem kn_e3:exprL (ByteArray.data ⟨#[57,50,50,51,51,55,50,48,51,54,56,53,52,55,55,53,56,48,56]⟩).toList = .inl (5,0):=by kernel_rfl
theorem kn_x1:exprL (ByteArray.data ⟨#[45,32,53]⟩).toList = .inr knX1:=by kernel_rfl
theorem kn_x2:exprL (ByteArray.data ⟨#[45,32,40,32,53,32,41]⟩).toList = .inr knX2:=by kernel_rfl
theorem kn_x3:exprL (ByteArray.data ⟨#[45,32,40,32,45,32,97,32,41]⟩).toList = .inr knX3:=by kernel_rfl
theorem kn_s1:scriptL (ByteArray.data ⟨#[66,69,71,73,78,59]⟩).toList = .inr [{ kind:=9 }]:=by kernel_rfl
theorem kn_s2:scriptL (ByteArray.data ⟨#[59]⟩).toList = .inl (6,0):=by kernel_rfl
theorem kn_s3:scriptL (ByteArray.data ⟨#[83,69,76,69,67,84,32,42,32,70,82,79,77,32,116,32,76,73,77,73,84,32,49,48,55,51,55,52,49,56,50,53]⟩).toList = .inl (5,22):=by kernel_rfl
theorem kn_s4:scriptL (ByteArray.data ⟨#[67,82,69,65,84,69,32,84,65,66,76,69,32,116,32,40,97,32,73,78,84,69,71,69,82,44,32,80,82,73,77,65,82,89,32,75,69,89,32,40,97,41,41]⟩).toList = .inr [knS]:=by kernel_rfl
theorem kn_s5:scriptL (ByteArray.data ⟨#[67,82,69,65,84,69,32,84,65,66,76,69,32,116,32,40,32,97,32,73,78,84,69,71,69,82,32,44,32,80,82,73,77,65,82,89,32,75,69,89,32,40,32,97,32,41,32,41]⟩).toList = .inr [knS]:=by kernel_rfl
theorem kn_p1:plainL (wrE knX1 [])=((ByteArray.data ⟨#[45,32,53]⟩).toList,true):=by kernel_rfl
theorem kn_l1:(wrE knX1 []).length ≤ 1000000000:=Nat.le_trans (show (wrE knX1 []).length ≤ 100 by decide +kernel) (by decide)
theorem kn_w1:printEL knX1=((ByteArray.data ⟨#[45,32,53]⟩).toList,0):=by
 have h:=printE_yes (x:=knX1) (by rw [kn_p1]) (by rw [kn_p1];exact kn_x1)
 rw [h,kn_p1]
theorem kn_p2:plainL (wrE knX2 [])=((ByteArray.data ⟨#[45,32,40,32,53,32,41]⟩).toList,true):=by kernel_rfl
theorem kn_l2:(wrE knX2 []).length ≤ 1000000000:=Nat.le_trans (show (wrE knX2 []).length ≤ 100 by decide +kernel) (by decide)
theorem kn_w2:printEL knX2=((ByteArray.data ⟨#[45,32,40,32,53,32,41]⟩).toList,0):=by
 have h:=printE_yes (x:=knX2) (by rw [kn_p2]) (by rw [kn_p2];exact kn_x2)
 rw [h,kn_p2]
theorem kn_p3:plainL (wrE knX3 [])=((ByteArray.data ⟨#[45,32,40,32,45,32,97,32,41]⟩).toList,true):=by kernel_rfl
theorem kn_l3:(wrE knX3 []).length ≤ 1000000000:=Nat.le_trans (show (wrE knX3 []).length ≤ 100 by decide +kernel) (by decide)
theorem kn_w3:printEL knX3=((ByteArray.data ⟨#[45,32,40,32,45,32,97,32,41]⟩).toList,0):=by
 have h:=printE_yes (x:=knX3) (by rw [kn_p3]) (by rw [kn_p3];exact kn_x3)
 rw [h,kn_p3]
theorem kn_ps:plainL (wrSt knS [])=((ByteArray.data ⟨#[67,82,69,65,84,69,32,84,65,66,76,69,32,116,32,40,32,97,32,73,78,84,69,71,69,82,32,44,32,80,82,73,77,65,82,89,32,75,69,89,32,40,32,97,32,41,32,41]⟩).toList,true):=by kernel_rfl
theorem kn_ls:(wrSt knS []).length ≤ 100:=by decide +kernel
theorem kn_one (op:Nat) (x:PE) (h:Short x):Short (.node op [x]):=.mk _ (by show (1:Nat) ≤ _;omega) (fun y hy=>by obtain rfl:=List.mem_singleton.1 hy;exact h)
theorem kn_two (op:Nat) (x y:PE) (hx:Short x) (hy:Short y):Short (.node op [x,y]):=.mk _ (by show (2:Nat) ≤ _;omega) (fun z hz=>by
 have hz:z ∈ [x,y]:=hz
 simp only [List.mem_cons,List.not_mem_nil,or_false] at hz
 rcases hz with rfl | rfl
 ·exact hx
 ·exact hy)
theorem kn_val (n:Int):Short (PE.val1 ⟨1,n,⟨#[]⟩⟩):=.mk _ (by show (0:Nat) ≤ _;omega) (fun y hy=>by cases hy)
theorem kn_col:Short (PE.mk 2 V00 ⟨#[]⟩ ⟨#[97]⟩ 0 []):=.mk _ (by show (0:Nat) ≤ _;omega) (fun y hy=>by cases hy)
theorem kn_shA:Short knA:=kn_two _ _ _ (kn_val 1) (kn_two _ _ _ (kn_val 2) (kn_val 3))
theorem kn_shB:Short knB:=kn_two _ _ _ (kn_two _ _ _ (kn_val 1) (kn_val 2)) (kn_val 3)
theorem kn_sh1:Short knX1:=kn_val _
theorem kn_sh2:Short knX2:=kn_one _ _ (kn_val 5)
theorem kn_sh3:Short knX3:=kn_one _ _ (kn_one _ _ kn_col)
theorem kn_shS:SShort knS:=by
 have e:∀ {α:Type} {p:α→Prop},([]:List α).length ≤ 140737488351232∧∀ r ∈ ([]:List α),p r:=⟨Nat.zero_le _,fun r hr=>by cases hr⟩
 exact ⟨by show (1:Nat) ≤ _;omega,by show (1:Nat) ≤ _;omega,Nat.zero_le _,e,e,e,e,e,e,e,e⟩
theorem kn_ew {w1:World} {b:Nat} (hx:LX w1):EXW w1 b knX1∧EXW w1 b knX2∧EXW w1 b knX3:=by
 have v0:VFit V00:=⟨by decide,by decide,by decide⟩
 have val:∀ n:Int,-6 < n→n < 6→EXW w1 b (PE.val1 ⟨1,n,⟨#[]⟩⟩):=fun n h0 h1=>exprVal w1 b _ ⟨by show -9223372036854775808 ≤ n;omega,by show n ≤ 9223372036854775807;omega,by show (0:Nat) ≤ 100000;decide⟩ hx (fun y hy=>by cases hy) (Lib.hid rfl) (Lib.hid rfl)
 have col:EXW w1 b (PE.mk 2 V00 ⟨#[]⟩ ⟨#[97]⟩ 0 []):=exprCol w1 b _ v0 hx (fun y hy=>by cases hy) (Lib.hid rfl) (Lib.hid rfl)
 have one:∀ {x:PE},EXW w1 b x→EXW w1 b (.node 3 [x]):=fun {x} h=>exprNeg w1 b (.node 3 [x]) v0 hx (fun y hy=>by obtain rfl:=List.mem_singleton.1 hy;exact h) (Lib.hid rfl) (Lib.hid rfl)
 exact ⟨val (-5) (by decide) (by decide),one (val 5 (by decide) (by decide)),one (one col)⟩
open Go.RowKit Go.Proofs.YtmdogmpcmkfjpaaGreatDoor.By
set_option maxRecDepth 100000 in
set_option maxHeartbeats 16000000 in
theorem printEW (x:PE) (kv:Value) (w:World) (hx:LX w) (hk:ExsR w kv x.kids) (hE:∀ w1 b,Below w.heap.size w w1→EXW w1 b x) (hsh:Short x) (hlen:(wrE x []).length ≤ 1000000000) :
 Calls Tryz.prog 18 #[x.val kv] w (prPost w (printEL x)):=by
 have HX:=Lib.hid hx
 have HSH:=Lib.hid hsh
 have HLN:=Lib.hid hlen
 obtain ⟨ka,kc,rfl,_⟩:=hk.shape
 have HK:=Lib.hid hk
 unfold PE.val
 have HBA:Hid (Below w.heap.size w (w.alloc (.cells #[.int .u8 (x.op:Int),.int .u8 (x.v.k:Int),.int .i64 x.v.n,.string x.v.s,.string x.t,.string x.m,.int .i64 x.n,.slice ka x.kids.length kc] 48))):=Lib.hid ((Below.refl _ _).alloc (Nat.le_refl _) _)
 have HX0:=Lib.hid (row_alloc w 48 #[.int .u8 (x.op:Int),.int .u8 (x.v.k:Int),.int .i64 x.v.n,.string x.v.s,.string x.t,.string x.m,.int .i64 x.n,.slice ka x.kids.length kc])
 have HPR:=Lib.hid (Eq.refl (printEL x))
 obtain ⟨⟨PT,PB⟩,hpp⟩:∃ z,plainL (wrE x [])=z:=⟨_,rfl⟩
 have HPP:=Lib.hid hpp
 go_enter Tryz.func18,Tryz.ntmps18
 go_upto_region 2 with fail
 generalize hwa:w.alloc (.cells #[.int .u8 (x.op:Int),.int .u8 (x.v.k:Int),.int .i64 x.v.n,.string x.v.s,.string x.t,.string x.m,.int .i64 x.n,.slice ka x.kids.length kc] 48)=wa at *
 have hzA:wa.heap.size=w.heap.size + 1:=by rw [← hwa];simp
 have HBD:=Lib.hid (buildW_new wa.heap.size wa (Nat.le_refl _))
 have HLW:Hid (Below wa.heap.size wa (wa.alloc (.cells #[.pointer none,.slice none 0 0] 67))):=Lib.hid ((Below.refl _ _).alloc (Nat.le_refl _) _)
 rw [hzA] at HBD
 have HW:Hid (WS wa (w.heap.size + 1) [] (wa.alloc (.cells #[.pointer none,.slice none 0 0] 67))):=Lib.hid ⟨by rw [hzA];exact HBD.out,HLW.out⟩
 have HXB:=Lib.hid (HX0.out.later HLW.out)
 have hst:=hE wa (w.heap.size + 1) HBA.out [] _ (.slice ka x.kids.length kc) HW.out (exsR_below hk HBA.out) (Nat.le_trans hlen (by decide))
 unfold PE.val at hst
 have HST:=Lib.hid hst
 clear hwa hzA hst hx hk hE hsh hlen hpp
 generalize wa.alloc (.cells #[.pointer none,.slice none 0 0] 67)=wb at *
 have p0:=HXB.out.cell (i:=0) (v:=.int .u8 (x.op:Int)) rfl
 have p1:=HXB.out.cell (i:=1) (v:=.int .u8 (x.v.k:Int)) rfl
 have p2:=HXB.out.cell (i:=2) (v:=.int .i64 x.v.n) rfl
 have p3:=HXB.out.cell (i:=3) (v:=.string x.v.s) rfl
 have p4:=HXB.out.cell (i:=4) (v:=.string x.t) rfl
 have p5:=HXB.out.cell (i:=5) (v:=.string x.m) rfl
 have p6:=HXB.out.cell (i:=6) (v:=.int .i64 x.n) rfl
 have p7:=HXB.out.cell (i:=7) (v:=.slice ka x.kids.length kc) rfl
 go_wp2_with fail
 refine HST.out.mono ?_
 rintro e2 w2 ⟨rfl,hs2,hk2⟩
 have hs2low:=Lib.hid hs2.low
 have HB2:Hid (Below w.heap.size w w2):=Lib.hid (HBA.out.trans (hs2.low.mono HBA.out.size))
 have HT2:=Lib.hid (writerString _ _ _ w2 hs2.bld)
 clear hs2 hk2 HST p0 p1 p2 p3 p4 p5 p6 p7
 go_wp2_with fail
 refine HT2.out.mono ?_
 rintro e3 w3 ⟨rfl,hb3⟩
 obtain ⟨T,hT⟩:∃ z:ByteArray,str (wrE x []) = .string z∧z.data.toList=wrE x []:=⟨⟨(wrE x []).toArray⟩,rfl,by simp⟩
 rw [hT.1]
 have HB3:Hid (Below w.heap.size w w3):=Lib.hid (HB2.out.trans (hb3.mono HBA.out.size))
 have HPL:=Lib.hid (plainW T w3 (HX.out.later HB3.out) (by have:=HLN.out;rw [← hT.2,ba_len] at this;exact this))
 rw [hT.2,HPP.out] at HPL
 have HX3:=Lib.hid (HX0.out.later (hs2low.out.trans hb3))
 clear hb3 HT2 hT
 go_wp2_with fail
 refine HPL.out.mono ?_
 rintro e4 w4 ⟨t,rfl,ht1,ht2,hb4⟩
 have HB4:=Lib.hid (next HB3.out hb4)
 have HX4:=Lib.hid (HX3.out.later hb4)
 have HSC:=Lib.hid (exprTopW t w4 (HX.out.later HB4.out) ht2)
 have HT1:=Lib.hid ht1
 have HT9:=Lib.hid ht2
 clear hb4 ht1 ht2 HPL
 cases hR:exprL t.data.toList with
 | inl z=>
  obtain ⟨en,ea⟩:=z
  have hne:=expr_ne hR
  have HNO:Hid (printEL x=([],2)):=Lib.hid (printE_no fun ⟨h1,h2⟩=>by
   rw [HPP.out] at h1 h2
   rw [← HT1.out h1,hR] at h2
   cases h2)
  have HEN:Hid (((en:Int) != 0)=true):=Lib.hid (by simp;omega)
  rw [hR] at HSC
  clear hR hne
  go_wp2_with fail
  refine HSC.out.mono ?_
  rintro e5 w5 ⟨he,hb5⟩
  have he:e5 = .returned (.tuple #[.agg #[.int .u8 0,.int .u8 0,.int .i64 0,.string ⟨#[]⟩,.string ⟨#[]⟩,.string ⟨#[]⟩,.int .i64 0,.slice none 0 0],.agg #[.int .i64 (en:Int),.int .i64 ea]]):=he
  subst he
  have hba:Below w5.heap.size w5 ((w5.alloc (.cells #[.int .u8 0,.int .u8 0,.int .i64 0,.string ⟨#[]⟩,.string ⟨#[]⟩,.string ⟨#[]⟩,.int .i64 0,.slice none 0 0] 48)).alloc (.cells #[.int .i64 (en:Int),.int .i64 ea] 39)):=((Below.refl _ _).alloc (Nat.le_refl _) _).alloc (by simp) _
  have HB5:=Lib.hid (next HB4.out (next hb5 hba))
  have hz:(w5.alloc (.cells #[.int .u8 0,.int .u8 0,.int .i64 0,.string ⟨#[]⟩,.string ⟨#[]⟩,.string ⟨#[]⟩,.int .i64 0,.slice none 0 0] 48)).heap.size=w5.heap.size + 1:=by simp
  have hrs:=row_alloc (w5.alloc (.cells #[.int .u8 0,.int .u8 0,.int .i64 0,.string ⟨#[]⟩,.string ⟨#[]⟩,.string ⟨#[]⟩,.int .i64 0,.slice none 0 0] 48)) 39 #[.int .i64 (en:Int),.int .i64 ea]
  rw [hz] at hrs
  have HRS:=Lib.hid hrs
  clear hb5 HSC hba hrs hz
  go_upto_region 5 with fail
  generalize (w5.alloc (.cells #[.int .u8 0,.int .u8 0,.int .i64 0,.string ⟨#[]⟩,.string ⟨#[]⟩,.string ⟨#[]⟩,.int .i64 0,.slice none 0 0] 48)).alloc (.cells #[.int .i64 (en:Int),.int .i64 ea] 39)=w6 at *
  generalize w5.heap.size=g at *
  have l0:=HRS.out.cell (i:=0) (v:=.int .i64 (en:Int)) rfl
  have hen:=HEN.out
  cases PB
  all_goals (
   go_wp2_with fail
   go_ret2
   rw [HNO.out]
   exact ⟨⟨#[]⟩,rfl,rfl,HB5.out⟩)
 | inr y=>
  rw [hR] at HSC
  have HRE:=Lib.hid hR
  clear hR
  go_wp2_with fail
  refine HSC.out.mono ?_
  rintro e5 w5 ⟨⟨v,rfl,hnw⟩,hb5⟩
  obtain ⟨lv,rfl,hk5⟩:=hnw.here.open
  obtain ⟨la,lc,rfl,_⟩:=hk5.shape
  have hba:Below w5.heap.size w5 ((w5.alloc (.cells #[.int .u8 (y.op:Int),.int .u8 (y.v.k:Int),.int .i64 y.v.n,.string y.v.s,.string y.t,.string y.m,.int .i64 y.n,.slice la y.kids.length lc] 48)).alloc (.cells #[.int .i64 0,.int .i64 0] 39)):=((Below.refl _ _).alloc (Nat.le_refl _) _).alloc (by simp) _
  have HB5:=Lib.hid (next HB4.out (next hb5 hba))
  have hz:(w5.alloc (.cells #[.int .u8 (y.op:Int),.int .u8 (y.v.k:Int),.int .i64 y.v.n,.string y.v.s,.string y.t,.string y.m,.int .i64 y.n,.slice la y.kids.length lc] 48)).heap.size=w5.heap.size + 1:=by simp
  have hrs:=row_alloc (w5.alloc (.cells #[.int .u8 (y.op:Int),.int .u8 (y.v.k:Int),.int .i64 y.v.n,.string y.v.s,.string y.t,.string y.m,.int .i64 y.n,.slice la y.kids.length lc] 48)) 39 #[.int .i64 0,.int .i64 0]
  rw [hz] at hrs
  have HRS:=Lib.hid hrs
  have HRY:=Lib.hid ((row_alloc w5 48 #[.int .u8 (y.op:Int),.int .u8 (y.v.k:Int),.int .i64 y.v.n,.string y.v.s,.string y.t,.string y.m,.int .i64 y.n,.slice la y.kids.length lc]).later ((Below.refl _ _).alloc (Nat.le_refl _) (.cells #[.int .i64 0,.int .i64 0] 39)))
  have HX5:=Lib.hid (HX4.out.later (next hb5 hba))
  have hc:=sameEx HSH.out y (.slice ka x.kids.length kc) (.slice la y.kids.length lc) _ (exsR_below HK.out (next HB4.out (next hb5 hba))) (exsR_below hk5 hba)
  unfold PE.val at hc
  have HC:=Lib.hid hc
  clear hb5 HSC hba hrs hz hnw hk5 hc
  go_upto_region 5 with fail
  generalize (w5.alloc (.cells #[.int .u8 (y.op:Int),.int .u8 (y.v.k:Int),.int .i64 y.v.n,.string y.v.s,.string y.t,.string y.m,.int .i64 y.n,.slice la y.kids.length lc] 48)).alloc (.cells #[.int .i64 0,.int .i64 0] 39)=w6 at *
  generalize w5.heap.size=g at *
  have l0:=HRS.out.cell (i:=0) (v:=.int .i64 0) rfl
  cases PB
  ·have HNO:Hid (printEL x=([],2)):=Lib.hid (printE_no fun ⟨h1,h2⟩=>by rw [HPP.out] at h1;cases h1)
   go_wp2_with fail
   go_ret2
   rw [HNO.out]
   exact ⟨⟨#[]⟩,rfl,rfl,HB5.out⟩
  ·have x0:=HX5.out.cell (i:=0) (v:=.int .u8 (x.op:Int)) rfl
   have x1:=HX5.out.cell (i:=1) (v:=.int .u8 (x.v.k:Int)) rfl
   have x2:=HX5.out.cell (i:=2) (v:=.int .i64 x.v.n) rfl
   have x3:=HX5.out.cell (i:=3) (v:=.string x.v.s) rfl
   have x4:=HX5.out.cell (i:=4) (v:=.string x.t) rfl
   have x5:=HX5.out.cell (i:=5) (v:=.string x.m) rfl
   have x6:=HX5.out.cell (i:=6) (v:=.int .i64 x.n) rfl
   have x7:=HX5.out.cell (i:=7) (v:=.slice ka x.kids.length kc) rfl
   have y0:=HRY.out.cell (i:=0) (v:=.int .u8 (y.op:Int)) rfl
   have y1:=HRY.out.cell (i:=1) (v:=.int .u8 (y.v.k:Int)) rfl
   have y2:=HRY.out.cell (i:=2) (v:=.int .i64 y.v.n) rfl
   have y3:=HRY.out.cell (i:=3) (v:=.string y.v.s) rfl
   have y4:=HRY.out.cell (i:=4) (v:=.string y.t) rfl
   have y5:=HRY.out.cell (i:=5) (v:=.string y.m) rfl
   have y6:=HRY.out.cell (i:=6) (v:=.int .i64 y.n) rfl
   have y7:=HRY.out.cell (i:=7) (v:=.slice la y.kids.length lc) rfl
   cases hB:eqB x y with
   | false=>
    have HNO:Hid (printEL x=([],2)):=Lib.hid (printE_no fun ⟨h1,h2⟩=>by
     rw [HPP.out] at h2
     rw [← HT1.out rfl,HRE.out] at h2
     cases h2
     rw [eqB_self] at hB
     cases hB)
    rw [hB] at HC
    clear hB
    go_wp2_with fail
    refine HC.out.mono ?_
    rintro e7 w7 ⟨rfl,hb7⟩
    have HB7:=Lib.hid (next HB5.out hb7)
    clear hb7 HC x0 x1 x2 x3 x4 x5 x6 x7 y0 y1 y2 y3 y4 y5 y6 y7 l0
    go_wp2_with fail
    go_ret2
    rw [HNO.out]
    exact ⟨⟨#[]⟩,rfl,rfl,HB7.out⟩
   | true=>
    have HYE:Hid (printEL x=(PT,0)):=Lib.hid (by
     have e:=eqB_true.1 hB
     subst e
     have h1:=printE_yes (x:=x) (by rw [HPP.out]) (by rw [HPP.out];rw [← HT1.out rfl];exact HRE.out)
     rw [h1,HPP.out])
    rw [hB] at HC
    clear hB
    go_wp2_with fail
    refine HC.out.mono ?_
    rintro e7 w7 ⟨rfl,hb7⟩
    have HB7:=Lib.hid (next HB5.out hb7)
    clear hb7 HC x0 x1 x2 x3 x4 x5 x6 x7 y0 y1 y2 y3 y4 y5 y6 y7 l0
    go_wp2_with fail
    go_ret2
    rw [HYE.out]
    exact ⟨t,rfl,HT1.out (by first | rfl | trivial),HB7.out⟩
def tyB (k:Nat):ByteArray:=if k=0 then ⟨#[63]⟩ else if k=1 then WINTEGER else if k=2 then WTEXT else WBLOB
theorem tyT_at (n:Nat):(tyT[n % 4]?).getD []=W1 (tyB (n % 4)):=by
 have h:n % 4 < 4:=Nat.mod_lt _ (by decide)
 generalize n % 4=k at *
 rcases (by omega:k=0 ∨ k=1 ∨ k=2 ∨ k=3) with rfl | rfl | rfl | rfl <;> rfl
theorem and3 {n:Nat} (h:n < 256):bits BinOp.and IntKind.u8 (n:Int) 3=((n % 4:Nat):Int):=by
 have h1:∀ k:Fin 256,bits BinOp.and IntKind.u8 ((k.val:Nat):Int) 3=((k.val % 4:Nat):Int):=by decide +kernel
 exact h1 ⟨n,h⟩
def colT (c:PCol) (a:List UInt8):List UInt8:=putsL [W1 BCOMMA] (if c.nn then putsL [W1 WNOT,W1 WNULL] (putsL [W1 c.name,W1 (tyB (c.ty % 4))] a) else putsL [W1 c.name,W1 (tyB (c.ty % 4))] a)
theorem colsT_cons (c:PCol) (l:List PCol) (a:List UInt8):colsT (c :: l) a=colsT l (colT c a):=by
 show colsT l _=_
 rw [tyT_at]
 rfl
theorem colsT_app:∀ (l m:List PCol) (a:List UInt8),colsT (l ++ m) a=colsT m (colsT l a)
 | [],_,_=>rfl
 | c :: l,m,a=>by rw [List.cons_append,colsT_cons,colsT_cons,colsT_app l m]
theorem colT_len1 (c:PCol) (a:List UInt8):(putsL [W1 c.name,W1 (tyB (c.ty % 4))] a).length ≤ (colT c a).length:=by
 unfold colT
 split
 ·exact Nat.le_trans (putsL_len _ _) (putsL_len _ _)
 ·exact putsL_len _ _
theorem colsT_len:∀ (l:List PCol) (a:List UInt8),a.length ≤ (colsT l a).length
 | [],_=>Nat.le_refl _
 | c :: l,a=>by
  rw [colsT_cons]
  exact Nat.le_trans (Nat.le_trans (Nat.le_trans (putsL_len _ _) (colT_len1 c a)) (Nat.le_refl _)) (colsT_len l _)
abbrev tyAs:Array Value:=#[.string ⟨#[63]⟩,.string ⟨#[73,78,84,69,71,69,82]⟩,.string ⟨#[84,69,88,84]⟩,.string ⟨#[66,76,79,66]⟩]
theorem idx_ty (k:Nat) (hk:k < 4) (W:World):(Instr.index 149 (.agg tyAs) (.int .u8 (k:Int))).run Tryz.prog W = .ok (.string (tyB k)) W:=by
 have hu:Tryz.prog.underlying 149=some (.array 4 9):=by kernel_rfl
 rcases (by omega:k=0 ∨ k=1 ∨ k=2 ∨ k=3) with rfl | rfl | rfl | rfl <;> (simp [Instr.index,run_underlying hu,asIntOf,go_sem];try rfl)
def TbKn (b:Nat) (c:PCol) (q1 k:Nat):Nat→Value→World→Prop
 | 0,v,_=>v = .pointer (some ⟨b,0,none⟩)
 | 1,v,_=>v = .pointer (some ⟨q1,0,none⟩)
 | 2,v,_=>v = .string c.name
 | 3,v,_=>v = .agg tyAs
 | 4,v,_=>v = .pointer (some ⟨q1,1,none⟩)
 | 5,v,_=>v = .int .u8 (c.ty:Int)
 | 6,v,_=>v = .int .u8 (k:Int)
 | 7,v,_=>v = .string (tyB k)
 | 8,v,w=>∃ g,v = .slice (some ⟨g,0,none⟩) 2 2∧BX b g 9 #[.string c.name,.string (tyB k)] w∧b < w.heap.size
 | _,_,_=>True
theorem TbKn.later {b:Nat} {c:PCol} {q1 k:Nat} : ∀ (j:Nat) (v:Value) (w1 w2:World),TbKn b c q1 k j v w1→Below w1.heap.size w1 w2→TbKn b c q1 k j v w2
 | 0,_,_,_,h,_=>h
 | 1,_,_,_,h,_=>h
 | 2,_,_,_,h,_=>h
 | 3,_,_,_,h,_=>h
 | 4,_,_,_,h,_=>h
 | 5,_,_,_,h,_=>h
 | 6,_,_,_,h,_=>h
 | 7,_,_,_,h,_=>h
 | 8,_,_,_,⟨g,e,h1,h2⟩,hb=>⟨g,e,h1.later hb h2,Nat.lt_of_lt_of_le h2 hb.size⟩
 | _ + 9,_,_,_,_,_=>trivial
set_option maxRecDepth 100000 in
set_option maxHeartbeats 16000000 in
theorem createTb (w1:World) (b:Nat) (x:PSt) (H_k:Hid (x.kind=1)) (a4 a5 a6 a7 a8 a9 a10 a11 a12 a13 a14:Option Addr) (n4 n5 n6 n7 n8 n9 n10 n11 n12 n13 n14:Nat) (l:List UInt8) (w:World) (h:WS w1 b l w) (hwk:SlR 1 TxtR w1 (.slice a5 x.key.length n5) x.key) (hn5:x.key.length ≤ 140737488351232)
 (hwc:SlR 3 ColR w1 (.slice a4 x.cols.length n4) x.cols) (hn4:x.cols.length ≤ 140737488351232) (hty:∀ c ∈ x.cols,c.ty < 256) (hlen:(createT x l).length ≤ 140737488355328) :
 Calls Tryz.prog 59 #[.pointer (some ⟨b,0,none⟩),.agg #[.int .u8 (x.kind:Int),.string x.table,.string x.name,.bool x.uniq,.slice a4 x.cols.length n4,.slice a5 x.key.length n5,.slice a6 x.names.length n6,.slice a7 x.rows.length n7,.slice a8 x.sets.length n8,.slice a9 x.items.length n9,.slice a10 x.src.length n10,.slice a11 x.wh.length n11,.slice a12 x.group.length n12,.slice a13 x.having.length n13,.slice a14 x.order.length n14,.int .i64 x.limit]] w (WPost w1 b (createT x l) w):=by
 have HLN:=Lib.hid hlen
 have HN:=Lib.hid hn5
 have HN4:=Lib.hid hn4
 have HTY:=Lib.hid hty
 have HWC:=Lib.hid hwc
 have HX:=Lib.hid (h.box 31 #[.int .u8 (x.kind:Int),.string x.table,.string x.name,.bool x.uniq,.slice a4 x.cols.length n4,.slice a5 x.key.length n5,.slice a6 x.names.length n6,.slice a7 x.rows.length n7,.slice a8 x.sets.length n8,.slice a9 x.items.length n9,.slice a10 x.src.length n10,.slice a11 x.wh.length n11,.slice a12 x.group.length n12,.slice a13 x.having.length n13,.slice a14 x.order.length n14,.int .i64 x.limit])
 have HQ:=HX
 have HW:=Lib.hid (h.alloc (.cells #[.int .u8 (x.kind:Int),.string x.table,.string x.name,.bool x.uniq,.slice a4 x.cols.length n4,.slice a5 x.key.length n5,.slice a6 x.names.length n6,.slice a7 x.rows.length n7,.slice a8 x.sets.length n8,.slice a9 x.items.length n9,.slice a10 x.src.length n10,.slice a11 x.wh.length n11,.slice a12 x.group.length n12,.slice a13 x.having.length n13,.slice a14 x.order.length n14,.int .i64 x.limit] 31))
 have HK0:=Lib.hid (h.keepAlloc (.cells #[.int .u8 (x.kind:Int),.string x.table,.string x.name,.bool x.uniq,.slice a4 x.cols.length n4,.slice a5 x.key.length n5,.slice a6 x.names.length n6,.slice a7 x.rows.length n7,.slice a8 x.sets.length n8,.slice a9 x.items.length n9,.slice a10 x.src.length n10,.slice a11 x.wh.length n11,.slice a12 x.group.length n12,.slice a13 x.having.length n13,.slice a14 x.order.length n14,.int .i64 x.limit] 31))
 clear h hlen hn5 hn4 hty hwc
 go_enter Tryz.func59,Tryz.ntmps59
 go_upto_region 1 with fail
 generalize w.alloc (.cells #[.int .u8 (x.kind:Int),.string x.table,.string x.name,.bool x.uniq,.slice a4 x.cols.length n4,.slice a5 x.key.length n5,.slice a6 x.names.length n6,.slice a7 x.rows.length n7,.slice a8 x.sets.length n8,.slice a9 x.items.length n9,.slice a10 x.src.length n10,.slice a11 x.wh.length n11,.slice a12 x.group.length n12,.slice a13 x.having.length n13,.slice a14 x.order.length n14,.int .i64 x.limit] 31)=wa at *
 generalize w.heap.size=q at *
 have hk:=H_k.out
 have p0:=HX.out.row.cell (i:=0) (v:=.int .u8 (x.kind:Int)) rfl
 rw [hk] at p0
 have p1:=HX.out.row.cell (i:=1) (v:=.string x.table) rfl
 have HT:Hid (createT x l=putsL [W1 BCLOSE] (namesT x.key (putsL [W1 WPRIMARY,W1 WKEY] (colsT x.cols (putsL [W1 WCREATE,W1 WTABLE,W1 x.table,W1 BOPEN] l))))):=Lib.hid (by unfold createT;rw [hk];rfl)
 rw [HT.out] at HLN
 generalize hL0:putsL [W1 WCREATE,W1 WTABLE,W1 x.table,W1 BOPEN] l=L0 at *
 have HLC:Hid ((colsT x.cols L0).length ≤ 140737488355328):=Lib.hid (Nat.le_trans (Nat.le_trans (Nat.le_trans (putsL_len _ _) (namesT_len _ _)) (putsL_len _ _)) HLN.out)
 have HP2:=Lib.hid (putsN [WCREATE,WTABLE,x.table,BOPEN] w1 b l wa HW.out (by show (putsL [W1 WCREATE,W1 WTABLE,W1 x.table,W1 BOPEN] l).length ≤ _;rw [hL0];exact Nat.le_trans (colsT_len _ _) HLC.out) (by simp))
 go_wp2_with fail
 refine HP2.out.mono ?_
 rintro e2 w2 ⟨rfl,hs2,hk2⟩
 have hs2:WS w1 b L0 w2:=by rw [← hL0];exact hs2
 have HW2:=Lib.hid hs2
 have HK2:=Lib.hid (HK0.out.trans hk2)
 have HX2:=Lib.hid (HX.out.keep hk2)
 clear hs2 hk2 HP2 p0 p1 HX HW HQ HK0 hL0
 have p4:=HX2.out.row.cell (i:=4) (v:=.slice a4 x.cols.length n4) rfl
 go_wp2_with fail
 clear p4
 go_loopg [36] x.cols.length (fun gk iv wr=>∃ (i:Nat),iv = .int .i64 (i:Int)∧gk=x.cols.length - i∧i ≤ x.cols.length∧Hid (WS w1 b (colsT (x.cols.take i) L0) wr)∧Hid (KeepW b w2 wr))
 case atStart=>exact ⟨0,rfl,rfl,Nat.zero_le _,HW2,Lib.hid (KeepW.refl _ _)⟩
 case round=>
  obtain ⟨i,rfl,rfl,hi,HS,HKE⟩:=hrel
  by_cases hlt:i < x.cols.length
  ·obtain ⟨c,hx⟩:∃ z,x.cols[i]? = some z:=⟨x.cols[i],by simp⟩
   have hsn:colsT (x.cols.take (i + 1)) L0=colT c (colsT (x.cols.take i) L0):=by rw [List.take_add_one,hx];show colsT (x.cols.take i ++ [c]) L0=_;rw [colsT_app,colsT_cons];rfl
   have HLE:Hid ((colT c (colsT (x.cols.take i) L0)).length ≤ 140737488355328):=Lib.hid (by
    have h1:=HLC.out
    rw [show x.cols=x.cols.take (i + 1) ++ x.cols.drop (i + 1) from (List.take_append_drop _ _).symm,colsT_app] at h1
    rw [← hsn]
    exact Nat.le_trans (colsT_len _ _) h1)
   have HSN:=Lib.hid hsn
   obtain ⟨kq,ko,rfl,g0,g1,g2⟩:=col_at HWC.out hx
   have p0:=(HS.out.low.cell (cell_lt g0)).trans g0
   have p1:=(HS.out.low.cell (cell_lt g1)).trans g1
   have p2:=(HS.out.low.cell (cell_lt g2)).trans g2
   have ilt:(i:Int) < (x.cols.length:Int):=by omega
   have ige:(0:Int) ≤ (i:Int):=by omega
   have HLT:=Lib.hid hlt
   have HM:=Lib.hid (HTY.out c (List.mem_of_getElem? hx))
   generalize colsT (x.cols.take i) L0=L1 at *
   have HB:=Lib.hid (HS.out.box 89 #[.string c.name,.int .u8 (c.ty:Int),.bool c.nn])
   have HS1:=Lib.hid (HS.out.alloc (.cells #[.string c.name,.int .u8 (c.ty:Int),.bool c.nn] 89))
   have HKA:=Lib.hid (HKE.out.trans (HS.out.keepAlloc (.cells #[.string c.name,.int .u8 (c.ty:Int),.bool c.nn] 89)))
   clear hx hsn hlt g0 g1 g2
   go_upto_region 11 with fail
   clear p0 p1 p2
   generalize wr.alloc (.cells #[.string c.name,.int .u8 (c.ty:Int),.bool c.nn] 89)=wx at *
   generalize wr.heap.size=q1 at *
   have ha:=and3 HM.out
   have HLP:Hid ((putsL [W1 c.name,W1 (tyB (c.ty % 4))] L1).length ≤ 140737488355328):=Lib.hid (Nat.le_trans (colT_len1 _ _) HLE.out)
   obtain ⟨k,hk4⟩:∃ k,k=c.ty % 4:=⟨_,rfl⟩
   rw [← hk4] at ha HLP
   have HCT:=Lib.hid hk4.symm
   have HK4:Hid (k < 4):=Lib.hid (by rw [hk4];exact Nat.mod_lt _ (by decide))
   have HAN:=Lib.hid ha
   clear hk4 ha
   refine wp_region_kipt 9 (TbKn b c q1 k) 69 (by simp) (by kernel_rfl) (by kernel_rfl) TbKn.later ?_ ?_
   ·intro i' hi' A W hother hbW hd
    match i',hi' with
    | 0,hi'=>
     have h0:=tmps_at (show A.eval (.tmp 0) = .pointer (some ⟨b,0,none⟩) from hother 0 (by kernel_rfl))
     clear hother hd hi'
     exact kip_same rfl (wanted_none rfl) (.pointer (some ⟨b,0,none⟩)) (by simp only [execOp];go_simp) rfl
    | 1,hi'=>
     have h5:=tmps_at (show A.eval (.tmp 5) = .pointer (some ⟨q1,0,none⟩) from hother 5 (by kernel_rfl))
     clear hother hd hi'
     exact kip_same rfl (wanted_none rfl) (.pointer (some ⟨q1,0,none⟩)) (by simp only [execOp];go_simp) rfl
    | 2,hi'=>
     have h41:=tmps_at ((hd _ rfl ⟨1,.data⟩ (by simp) rfl).eq (.pointer (some ⟨q1,0,none⟩)) (fun _ h=>h) 41 (by kernel_rfl) (by decide))
     have l0:=(HB.out.later hbW HS1.out.lt).row.cell (i:=0) (v:=.string c.name) rfl
     clear hother hd hi'
     exact kip_same rfl (wanted_none rfl) (.string c.name) (by simp only [execOp];go_simp) rfl
    | 3,hi'=>
     clear hother hd hi'
     exact kip_same rfl (wanted_none rfl) (.agg tyAs) (by simp only [execOp];go_simp) rfl
    | 4,hi'=>
     have h5:=tmps_at (show A.eval (.tmp 5) = .pointer (some ⟨q1,0,none⟩) from hother 5 (by kernel_rfl))
     clear hother hd hi'
     exact kip_same rfl (wanted_none rfl) (.pointer (some ⟨q1,1,none⟩)) (by simp only [execOp];go_simp) rfl
    | 5,hi'=>
     have h44:=tmps_at ((hd _ rfl ⟨4,.data⟩ (by simp) rfl).eq (.pointer (some ⟨q1,1,none⟩)) (fun _ h=>h) 44 (by kernel_rfl) (by decide))
     have l1:=(HB.out.later hbW HS1.out.lt).row.cell (i:=1) (v:=.int .u8 (c.ty:Int)) rfl
     clear hother hd hi'
     exact kip_same rfl (wanted_none rfl) (.int .u8 (c.ty:Int)) (by simp only [execOp];go_simp) rfl
    | 6,hi'=>
     have h45:=tmps_at ((hd _ rfl ⟨5,.data⟩ (by simp) rfl).eq (.int .u8 (c.ty:Int)) (fun _ h=>h) 45 (by kernel_rfl) (by decide))
     have ha:=HAN.out
     clear hother hd hi'
     exact kip_same rfl (wanted_none rfl) (.int .u8 (k:Int)) (by simp only [execOp];go_simp) rfl
    | 7,hi'=>
     have h43:=tmps_at ((hd _ rfl ⟨3,.data⟩ (by simp) rfl).eq (.agg tyAs) (fun _ h=>h) 43 (by kernel_rfl) (by decide))
     have h46:=tmps_at ((hd _ rfl ⟨6,.data⟩ (by simp) rfl).eq (.int .u8 (k:Int)) (fun _ h=>h) 46 (by kernel_rfl) (by decide))
     have hi:=idx_ty k HK4.out W
     clear hother hd hi'
     exact kip_same rfl (wanted_none rfl) (.string (tyB k)) (by simp only [execOp];go_simp) rfl
    | 8,hi'=>
     have h42:=tmps_at ((hd _ rfl ⟨2,.data⟩ (by simp) rfl).eq (.string c.name) (fun _ h=>h) 42 (by kernel_rfl) (by decide))
     have h47:=tmps_at ((hd _ rfl ⟨7,.data⟩ (by simp) rfl).eq (.string (tyB k)) (fun _ h=>h) 47 (by kernel_rfl) (by decide))
     clear hother hd hi'
     exact kip_val rfl (wanted_none rfl) (.slice (some ⟨W.heap.size,0,none⟩) 2 2) (W.alloc (.cells #[.string c.name,.string (tyB k)] 9)) (by simp only [execOp];go_simp) ((Below.refl _ _).alloc (Nat.le_refl _) _) ⟨_,rfl,(HS1.out.later hbW).box _ _,((HS1.out.later hbW).alloc _).lt⟩
    | n + 9,hi'=>omega
   intro us w3 hb3 hk3
   have h0:us 0 = .pointer (some ⟨b,0,none⟩):=hk3 0 (by decide)
   have h1:us 1 = .pointer (some ⟨q1,0,none⟩):=hk3 1 (by decide)
   have h2:us 2 = .string c.name:=hk3 2 (by decide)
   have h3:us 3 = .agg tyAs:=hk3 3 (by decide)
   have h4:us 4 = .pointer (some ⟨q1,1,none⟩):=hk3 4 (by decide)
   have h5:us 5 = .int .u8 (c.ty:Int):=hk3 5 (by decide)
   have h6:us 6 = .int .u8 (k:Int):=hk3 6 (by decide)
   have h7:us 7 = .string (tyB k):=hk3 7 (by decide)
   obtain ⟨g,h8,hbx,_⟩:TbKn b c q1 k 8 (us 8) w3:=hk3 8 (by decide)
   have HS3:=Lib.hid (HS1.out.later hb3)
   have HK3:=Lib.hid (HKA.out.trans (KeepW.below hb3 HS1.out.lt))
   have HB3:=Lib.hid (HB.out.later hb3 HS1.out.lt)
   have HP:=Lib.hid (putsW [c.name,tyB k] w1 b L1 g w3 HS3.out hbx HLP.out (by simp))
   clear hb3 hk3 hbx
   simp only [putAll,dstOf,List.getElem?_toArray,List.getElem?_cons_zero,List.getElem?_cons_succ,Option.bind_some,Act.put,h0,h1,h2,h3,h4,h5,h6,h7,h8,List.drop_succ_cons,List.drop_zero]
   clear h0 h1 h2 h3 h4 h5 h6 h7 h8
   simp only [List.setIfInBounds_toArray,List.set_cons_zero,List.set_cons_succ]
   (
    go_wp2_with fail
    refine HP.out.mono ?_
    rintro e4 w4 ⟨rfl,hs4,hk4⟩
    have HS4:=Lib.hid hs4
    have HK4:=Lib.hid (HK3.out.trans hk4)
    have m2:=(HB3.out.keep hk4).row.cell (i:=2) (v:=.bool c.nn) rfl
    clear hs4 hk4 HP HS3 HK3 HB3
    cases hn:c.nn
    ·rw [hn] at m2
     have HCE:Hid (colT c L1=putsL [W1 BCOMMA] (putsL [W1 c.name,W1 (tyB k)] L1)):=Lib.hid (by unfold colT;rw [hn,HCT.out];rfl)
     have HP:=Lib.hid (putsN [BCOMMA] w1 b _ w4 HS4.out (by have h:=HLE.out;rw [HCE.out] at h;exact h) (by simp))
     clear hn
     go_wp2_with fail
     refine HP.out.mono ?_
     rintro e5 w5 ⟨rfl,hs5,hk5⟩
     have HS5:Hid (WS w1 b (colsT (x.cols.take (i + 1)) L0) w5):=Lib.hid (by rw [HSN.out,HCE.out];exact hs5)
     have HK5:=Lib.hid (HK4.out.trans hk5)
     clear hs5 hk5 HP m2
     go_wp2_with fail
     go_roundg (x.cols.length - (i + 1))
     case measure=>exact Nat.sub_lt_sub_left HLT.out (Nat.lt_succ_self _)
     case rel=>exact ⟨i + 1,congrArg (Value.int .i64) (by have h2:=HLT.out;have h3:=HN4.out;unfold wrap64;omega),rfl,HLT.out,HS5,HK5⟩
    ·rw [hn] at m2
     have HCE:Hid (colT c L1=putsL [W1 BCOMMA] (putsL [W1 WNOT,W1 WNULL] (putsL [W1 c.name,W1 (tyB k)] L1))):=Lib.hid (by unfold colT;rw [hn,HCT.out];rfl)
     have HP:=Lib.hid (putsN [WNOT,WNULL] w1 b _ w4 HS4.out (by have h:=HLE.out;rw [HCE.out] at h;exact Nat.le_trans (putsL_len _ _) h) (by simp))
     clear hn
     go_wp2_with fail
     refine HP.out.mono ?_
     rintro e5 w5 ⟨rfl,hs5,hk5⟩
     have HS5:=Lib.hid hs5
     have HK5:=Lib.hid (HK4.out.trans hk5)
     clear hs5 hk5 HP m2
     have HP:=Lib.hid (putsN [BCOMMA] w1 b _ w5 HS5.out (by have h:=HLE.out;rw [HCE.out] at h;exact h) (by simp))
     go_wp2_with fail
     refine HP.out.mono ?_
     rintro e6 w6 ⟨rfl,hs6,hk6⟩
     have HS6:Hid (WS w1 b (colsT (x.cols.take (i + 1)) L0) w6):=Lib.hid (by rw [HSN.out,HCE.out];exact hs6)
     have HK6:=Lib.hid (HK5.out.trans hk6)
     clear hs6 hk6 HP
     go_wp2_with fail
     go_roundg (x.cols.length - (i + 1))
     case measure=>exact Nat.sub_lt_sub_left HLT.out (Nat.lt_succ_self _)
     case rel=>exact ⟨i + 1,congrArg (Value.int .i64) (by have h2:=HLT.out;have h3:=HN4.out;unfold wrap64;omega),rfl,HLT.out,HS6,HK6⟩)
  ·obtain rfl:i=x.cols.length:=by omega
   have HS0:Hid (WS w1 b (colsT x.cols L0) wr):=Lib.hid (by have h1:=HS.out;rw [List.take_length] at h1;exact h1)
   have HX3:=Lib.hid (HX2.out.keep HKE.out)
   have HK3:=Lib.hid (HK2.out.trans HKE.out)
   clear hlt hi HS HX2 HW2 HKE HK2
   have HP:=Lib.hid (putsN [WPRIMARY,WKEY] w1 b _ wr HS0.out (Nat.le_trans (Nat.le_trans (namesT_len _ _) (putsL_len _ _)) HLN.out) (by simp))
   go_wp2_with fail
   refine HP.out.mono ?_
   rintro e4 w4 ⟨rfl,hs4,hk4⟩
   have HS4:=Lib.hid hs4
   have HK4:=Lib.hid (HK3.out.trans hk4)
   have HX4:=Lib.hid (HX3.out.keep hk4)
   clear hs4 hk4 HP
   have p5:=HX4.out.row.cell (i:=5) (v:=.slice a5 x.key.length n5) rfl
   have HC5:=Lib.hid (wnamesW w1 b x.key _ w4 _ HS4.out hwk (Nat.le_trans (putsL_len _ _) HLN.out) HN.out)
   go_wp2_with fail
   refine HC5.out.mono ?_
   rintro e5 w5 ⟨rfl,hs5,hk5⟩
   have HS5:=Lib.hid hs5
   have HK5:=Lib.hid (HK4.out.trans hk5)
   clear hs5 hk5 HC5 p5
   have HP:=Lib.hid (putsN [BCLOSE] w1 b _ w5 HS5.out HLN.out (by simp))
   go_wp2_with fail
   refine HP.out.mono ?_
   rintro e6 w6 ⟨rfl,hs6,hk6⟩
   have HS6:=Lib.hid hs6
   have HK6:=Lib.hid (HK5.out.trans hk6)
   clear hs6 hk6 HP
   go_wp2_with fail
   go_end0
   exact ⟨rfl,by rw [HT.out];exact HS6.out,HK6.out⟩
end Go.Proofs.YtmdogmpcmkfjpaaGreatDoor.Dt
