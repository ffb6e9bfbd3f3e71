import Derived.Test.YtmdogmpcmkfjpaaGreatDoorBn38
import Derived.Test.YtmdogmpcmkfjpaaGreatDoorBn40
import Derived.Test.YtmdogmpcmkfjpaaGreatDoorBn41
import Derived.Test.YtmdogmpcmkfjpaaGreatDoorBn15
/- Part of the proof (merged). -/
namespace Go.Proofs.YtmdogmpcmkfjpaaGreatDoor.Dt
open Go.RowKit Go.Proofs.YtmdogmpcmkfjpaaGreatDoor.By
set_option linter.unusedVariables false
def worksD:PSt:={ kind:=7,table:=⟨#[116]⟩,wh:=[(PE.node 6 [(PE.val1 ⟨1,1,⟨#[]⟩⟩),(PE.node 8 [(PE.val1 ⟨1,2,⟨#[]⟩⟩),(PE.val1 ⟨1,3,⟨#[]⟩⟩)])])] }
theorem works_read:scriptL (ByteArray.data ⟨#[68,69,76,69,84,69,32,70,82,79,77,32,116,32,87,72,69,82,69,32,49,43,50,42,51]⟩).toList = .inr [worksD]:=by kernel_rfl
theorem works_plain:plainL (wrSt worksD [])=((ByteArray.data ⟨#[68,69,76,69,84,69,32,70,82,79,77,32,116,32,87,72,69,82,69,32,49,32,43,32,40,32,50,32,42,32,51,32,41]⟩).toList,true):=by kernel_rfl
theorem works_len:(wrSt worksD []).length ≤ 100:=by decide +kernel
theorem works_again:scriptL (ByteArray.data ⟨#[68,69,76,69,84,69,32,70,82,79,77,32,116,32,87,72,69,82,69,32,49,32,43,32,40,32,50,32,42,32,51,32,41]⟩).toList = .inr [worksD]:=by kernel_rfl
theorem worksSh2:∀ e ∈ worksD.wh,Short e:=by
 have v:∀ n:Int,Short (PE.val1 ⟨1,n,⟨#[]⟩⟩):=fun n=>.mk _ (by show (0:Nat) ≤ _;omega) (fun y hy=>by cases hy)
 have two:∀ (o:Nat) (x y:PE),Short x→Short y→Short (.node o [x,y]):=fun o x y hx hy=>.mk _ (by show (2:Nat) ≤ _;omega) (fun z hz=>by
  have hz:z ∈ [x,y]:=hz
  simp only [List.mem_cons,List.not_mem_nil,or_false] at hz
  rcases hz with rfl | rfl
  ·exact hx
  ·exact hy)
 intro e he
 obtain rfl:=List.mem_singleton.1 he
 exact two _ _ _ (v 1) (two _ _ _ (v 2) (v 3))
theorem worksSh:SShort worksD:=by
 have e:∀ {α:Type} {p:α→Prop},([]:List α).length ≤ 140737488351232∧∀ r ∈ ([]:List α),p r:=⟨Nat.zero_le _,fun r hr=>by cases hr⟩
 exact ⟨Nat.zero_le _,Nat.zero_le _,Nat.zero_le _,e,e,e,e,⟨by show (1:Nat) ≤ _;omega,worksSh2⟩,e,e,e⟩
theorem worksEx {w1:World} {b:Nat} (hx:LX w1):∀ e ∈ worksD.wh,EXW w1 b e:=by
 have v0:VFit V00:=⟨by decide,by decide,by decide⟩
 have val:∀ n:Int,0 ≤ n→n < 4→EXW w1 b (PE.val1 ⟨1,n,⟨#[]⟩⟩):=fun n h0 h1=>exprVal w1 b _ ⟨by show -9223372036854775808 ≤ n;omega,by show n ≤ 9223372036854775807;omega,by show (0:Nat) ≤ 100000;decide⟩ hx (fun y hy=>by cases hy) (Lib.hid rfl) (Lib.hid rfl)
 have pair:∀ {x y:PE},EXW w1 b x→EXW w1 b y→∀ z,z ∈ [x,y]→EXW w1 b z:=fun {x y} h1 h2 z hz=>by
  simp only [List.mem_cons,List.not_mem_nil,or_false] at hz
  rcases hz with rfl | rfl
  ·exact h1
  ·exact h2
 intro e he
 obtain rfl:=List.mem_singleton.1 he
 have h8:=exprTwo8 w1 b (PE.node 8 [(PE.val1 ⟨1,2,⟨#[]⟩⟩),(PE.val1 ⟨1,3,⟨#[]⟩⟩)]) v0 hx (pair (val 2 (by decide) (by decide)) (val 3 (by decide) (by decide))) (Lib.hid rfl) (Lib.hid rfl)
 exact exprTwo6 w1 b (PE.node 6 [(PE.val1 ⟨1,1,⟨#[]⟩⟩),PE.node 8 [(PE.val1 ⟨1,2,⟨#[]⟩⟩),(PE.val1 ⟨1,3,⟨#[]⟩⟩)]]) v0 hx (pair (val 1 (by decide) (by decide)) h8) (Lib.hid rfl) (Lib.hid rfl)
theorem worksS1:Short (PE.val1 ⟨1,1,⟨#[]⟩⟩):=.mk _ (by show (0:Nat) ≤ _;omega) (fun y hy=>by cases hy)
theorem works_ne:eqB worksD {} = false:=eqB_false fun h=>by have:=congrArg PSt.kind h;cases this
theorem works_ne2:eqB (PE.val1 ⟨1,1,⟨#[]⟩⟩) (PE.val1 ⟨1,2,⟨#[]⟩⟩)=false:=eqB_false fun h=>by
 have:=congrArg (fun x=>x.v.n) h
 exact absurd this (by decide)
theorem exV_below {w w':World} {v:Value} {x:PE} (h:ExV w v x) (hb:Below w.heap.size w w'):ExV w' v x:=by
 obtain ⟨cs,e,h⟩:=h
 exact ⟨cs,e,exR_below h hb⟩
theorem stR_zero (w:World):StR w [.int .u8 0,.string ⟨#[]⟩,.string ⟨#[]⟩,.bool false,.slice none 0 0,.slice none 0 0,.slice none 0 0,.slice none 0 0,.slice none 0 0,.slice none 0 0,.slice none 0 0,.slice none 0 0,.slice none 0 0,.slice none 0 0,.slice none 0 0,.int .i64 0] {} :=⟨_,_,_,_,_,_,_,_,_,_,_,rfl,SlR.nil _ _ _,SlR.nil _ _ _,SlR.nil _ _ _,SlR.nil _ _ _,SlR.nil _ _ _,SlR.nil _ _ _,SlR.nil _ _ _,SlR.nil _ _ _,SlR.nil _ _ _,SlR.nil _ _ _,SlR.nil _ _ _⟩
theorem stwDel {w1:World} (b:Nat) (x:PSt) (hk:x.kind=7) (hf:∀ e ∈ x.wh,EXW w1 b e) (hn:x.wh.length ≤ 140737488351232):STW w1 b x:=fun cs l w h hr hlen=>by
 obtain ⟨c4,c5,c6,c7,c8,c9,c10,c11,c12,c13,c14,rfl,h4,h5,h6,h7,h8,h9,h10,h11,h12,h13,h14⟩:=hr
 obtain ⟨a4,n4,rfl,_⟩:=h4.shape
 obtain ⟨a5,n5,rfl,_⟩:=h5.shape
 obtain ⟨a6,n6,rfl,_⟩:=h6.shape
 obtain ⟨a7,n7,rfl,_⟩:=h7.shape
 obtain ⟨a8,n8,rfl,_⟩:=h8.shape
 obtain ⟨a9,n9,rfl,_⟩:=h9.shape
 obtain ⟨a10,n10,rfl,_⟩:=h10.shape
 obtain ⟨a11,n11,rfl,_⟩:=h11.shape
 obtain ⟨a12,n12,rfl,_⟩:=h12.shape
 obtain ⟨a13,n13,rfl,_⟩:=h13.shape
 obtain ⟨a14,n14,rfl,_⟩:=h14.shape
 exact stmtDel w1 b x (Lib.hid hk) hf a4 a5 a6 a7 a8 a9 a10 a11 a12 a13 a14 n4 n5 n6 n7 n8 n9 n10 n11 n12 n13 n14 l w h h11 hn hlen
def WorksKn (yb yo vc:Nat) (d4 d5 d6 d7 d8 d9 d10 d11 d12 d13 d14:Value):Nat→Value→World→Prop
 | 0,v,_=>v = .int .i64 0
 | 1,v,_=>v = .bool true
 | 2,v,_=>v = .bool true
 | 3,v,_=>v = .string ⟨#[68,69,76,69,84,69,32,70,82,79,77,32,116,32,87,72,69,82,69,32,49,32,43,32,40,32,50,32,42,32,51,32,41]⟩
 | 4,v,_=>v = .bool true
 | 5,v,_=>v = .bool true
 | 6,v,_=>v = .bool true
 | 7,v,_=>v = .slice (some ⟨yb,yo,none⟩) 1 vc
 | 8,v,_=>v = .pointer (some ⟨yb,yo,none⟩)
 | 9,v,_=>v = .agg #[.int .u8 7,.string ⟨#[116]⟩,.string ⟨#[]⟩,.bool false,d4,d5,d6,d7,d8,d9,d10,d11,d12,d13,d14,.int .i64 0]
 | 10,v,_=>v = .agg #[.int .u8 1,.int .u8 1,.int .i64 1,.string ⟨#[]⟩,.string ⟨#[]⟩,.string ⟨#[]⟩,.int .i64 0,.slice none 0 0]
 | 11,v,_=>v = .agg #[.int .u8 1,.int .u8 1,.int .i64 2,.string ⟨#[]⟩,.string ⟨#[]⟩,.string ⟨#[]⟩,.int .i64 0,.slice none 0 0]
 | 12,v,_=>v = .agg #[.int .u8 1,.int .u8 1,.int .i64 3,.string ⟨#[]⟩,.string ⟨#[]⟩,.string ⟨#[]⟩,.int .i64 0,.slice none 0 0]
 | 13,v,w=>ExsR w v [(PE.val1 ⟨1,2,⟨#[]⟩⟩),(PE.val1 ⟨1,3,⟨#[]⟩⟩)]
 | 14,v,w=>ExV w v (.node 8 [(PE.val1 ⟨1,2,⟨#[]⟩⟩),(PE.val1 ⟨1,3,⟨#[]⟩⟩)])
 | 15,v,w=>ExsR w v [(PE.val1 ⟨1,1,⟨#[]⟩⟩),(PE.node 8 [(PE.val1 ⟨1,2,⟨#[]⟩⟩),(PE.val1 ⟨1,3,⟨#[]⟩⟩)])]
 | 16,v,w=>ExV w v (.node 6 [(PE.val1 ⟨1,1,⟨#[]⟩⟩),(PE.node 8 [(PE.val1 ⟨1,2,⟨#[]⟩⟩),(PE.val1 ⟨1,3,⟨#[]⟩⟩)])])
 | 17,v,w=>ExsR w v [(PE.node 6 [(PE.val1 ⟨1,1,⟨#[]⟩⟩),(PE.node 8 [(PE.val1 ⟨1,2,⟨#[]⟩⟩),(PE.val1 ⟨1,3,⟨#[]⟩⟩)])])]
 | 18,v,w=>∃ cs:List Value,v = .agg cs.toArray∧StR w cs worksD
 | 19,v,_=>v = .bool true
 | 20,v,_=>v = .bool true
 | 21,v,_=>v = .bool true
 | 22,v,_=>v = .slice (some ⟨yb,yo,none⟩) 1 vc
 | 23,v,_=>v = .pointer (some ⟨yb,yo,none⟩)
 | 24,v,_=>v = .agg #[.int .u8 7,.string ⟨#[116]⟩,.string ⟨#[]⟩,.bool false,d4,d5,d6,d7,d8,d9,d10,d11,d12,d13,d14,.int .i64 0]
 | 25,v,_=>v = .agg #[.int .u8 0,.string ⟨#[]⟩,.string ⟨#[]⟩,.bool false,.slice none 0 0,.slice none 0 0,.slice none 0 0,.slice none 0 0,.slice none 0 0,.slice none 0 0,.slice none 0 0,.slice none 0 0,.slice none 0 0,.slice none 0 0,.slice none 0 0,.int .i64 0]
 | 26,v,_=>v = .bool false
 | 27,v,_=>v = .bool true
 | 28,v,_=>v = .bool true
 | 29,v,_=>v = .bool true
 | 30,v,_=>v = .agg #[.int .u8 1,.int .u8 1,.int .i64 1,.string ⟨#[]⟩,.string ⟨#[]⟩,.string ⟨#[]⟩,.int .i64 0,.slice none 0 0]
 | 31,v,_=>v = .agg #[.int .u8 1,.int .u8 1,.int .i64 1,.string ⟨#[]⟩,.string ⟨#[]⟩,.string ⟨#[]⟩,.int .i64 0,.slice none 0 0]
 | 32,v,_=>v = .bool true
 | 33,v,_=>v = .bool true
 | 34,v,_=>v = .bool true
 | 35,v,_=>v = .agg #[.int .u8 1,.int .u8 1,.int .i64 1,.string ⟨#[]⟩,.string ⟨#[]⟩,.string ⟨#[]⟩,.int .i64 0,.slice none 0 0]
 | 36,v,_=>v = .agg #[.int .u8 1,.int .u8 1,.int .i64 2,.string ⟨#[]⟩,.string ⟨#[]⟩,.string ⟨#[]⟩,.int .i64 0,.slice none 0 0]
 | 37,v,_=>v = .bool false
 | 38,v,_=>v = .bool true
 | 39,v,_=>v = .bool true
 | 40,v,_=>v = .bool true
 | _,_,_=>True
theorem WorksKn.later {yb yo vc:Nat} {d4 d5 d6 d7 d8 d9 d10 d11 d12 d13 d14:Value} : ∀ (j:Nat) (v:Value) (w1 w2:World),WorksKn yb yo vc d4 d5 d6 d7 d8 d9 d10 d11 d12 d13 d14 j v w1→Below w1.heap.size w1 w2→WorksKn yb yo vc d4 d5 d6 d7 d8 d9 d10 d11 d12 d13 d14 j v w2
 | 0,_,_,_,h,_=>h
 | 1,_,_,_,h,_=>h
 | 2,_,_,_,h,_=>h
 | 3,_,_,_,h,_=>h
 | 4,_,_,_,h,_=>h
 | 5,_,_,_,h,_=>h
 | 6,_,_,_,h,_=>h
 | 7,_,_,_,h,_=>h
 | 8,_,_,_,h,_=>h
 | 9,_,_,_,h,_=>h
 | 10,_,_,_,h,_=>h
 | 11,_,_,_,h,_=>h
 | 12,_,_,_,h,_=>h
 | 13,v,w,w2,h,hb=>exsR_below h hb
 | 14,v,w,w2,h,hb=>exV_below h hb
 | 15,v,w,w2,h,hb=>exsR_below h hb
 | 16,v,w,w2,h,hb=>exV_below h hb
 | 17,v,w,w2,h,hb=>exsR_below h hb
 | 18,v,w,w2,h,hb=>h.elim fun cs hc=>⟨cs,hc.1,stR_below hc.2 hb⟩
 | 19,_,_,_,h,_=>h
 | 20,_,_,_,h,_=>h
 | 21,_,_,_,h,_=>h
 | 22,_,_,_,h,_=>h
 | 23,_,_,_,h,_=>h
 | 24,_,_,_,h,_=>h
 | 25,_,_,_,h,_=>h
 | 26,_,_,_,h,_=>h
 | 27,_,_,_,h,_=>h
 | 28,_,_,_,h,_=>h
 | 29,_,_,_,h,_=>h
 | 30,_,_,_,h,_=>h
 | 31,_,_,_,h,_=>h
 | 32,_,_,_,h,_=>h
 | 33,_,_,_,h,_=>h
 | 34,_,_,_,h,_=>h
 | 35,_,_,_,h,_=>h
 | 36,_,_,_,h,_=>h
 | 37,_,_,_,h,_=>h
 | 38,_,_,_,h,_=>h
 | 39,_,_,_,h,_=>h
 | 40,_,_,_,h,_=>h
 | _ + 41,_,_,_,h,_=>h
set_option maxRecDepth 100000 in
set_option maxHeartbeats 32000000 in
theorem worksL (w:World) (hw:LX w):Calls Tryz.prog 8 #[] w fun e w'=>e = .returned (.bool true)∧Below w.heap.size w w':=by
 have h:=scriptW ⟨#[68,69,76,69,84,69,32,70,82,79,77,32,116,32,87,72,69,82,69,32,49,43,50,42,51]⟩ w hw (by decide)
 rw [works_read] at h
 have HT:=Lib.hid h
 have HW:=Lib.hid hw
 clear h hw
 go_enter Tryz.func8,Tryz.ntmps8
 go_wp2_with fail
 refine HT.out.mono ?_
 rintro e w1 ⟨⟨v,rfl,hn⟩,hb1⟩
 obtain ⟨va,vc,hv,_⟩:=hn.here.shape
 have hv:v = .slice va 1 vc:=hv
 subst hv
 have HB1:=Lib.hid hb1
 have hb2:Below w1.heap.size w1 (w1.alloc (.cells #[.int .i64 0,.int .i64 0] 39)):=(Below.refl _ _).alloc (Nat.le_refl _) _
 have HB2:=Lib.hid (next hb1 hb2)
 have HRS:=Lib.hid (row_alloc w1 39 #[.int .i64 0,.int .i64 0])
 obtain ⟨yb,yo,ycs,rfl,_,hst,hyc⟩:=hn.here.get (k:=0) rfl
 have HSY0:=Lib.hid (stR_below hst hb2)
 obtain ⟨d4,d5,d6,d7,d8,d9,d10,d11,d12,d13,d14,hcs,_⟩:=hst
 have hcs:ycs = [.int .u8 7,.string ⟨#[116]⟩,.string ⟨#[]⟩,.bool false,d4,d5,d6,d7,d8,d9,d10,d11,d12,d13,d14,.int .i64 0]:=hcs
 subst hcs
 have HYC:Hid (∀ (j:Nat) (u:Value),([.int .u8 7,.string ⟨#[116]⟩,.string ⟨#[]⟩,.bool false,d4,d5,d6,d7,d8,d9,d10,d11,d12,d13,d14,.int .i64 0]:List Value)[j]? = some u→(w1.alloc (.cells #[.int .i64 0,.int .i64 0] 39)).cell? ⟨yb,yo + j,none⟩=some u):=Lib.hid (fun j u hu=>by
  have h1:=hyc j u hu
  rw [Nat.zero_mul,Nat.add_zero] at h1
  exact (hb2.cell (cell_lt h1)).trans h1)
 clear hn hb1 hb2 HT hyc
 go_upto_region 2 with fail
 have s0:=HRS.out.cell (i:=0) (v:=.int .i64 0) rfl
 have s1:=HRS.out.cell (i:=1) (v:=.int .i64 0) rfl
 have y0:=HYC.out 0 _ rfl
 rw [Nat.add_zero] at y0
 have y1:=HYC.out 1 _ rfl
 have y2:=HYC.out 2 _ rfl
 have y3:=HYC.out 3 _ rfl
 have y4:=HYC.out 4 _ rfl
 have y5:=HYC.out 5 _ rfl
 have y6:=HYC.out 6 _ rfl
 have y7:=HYC.out 7 _ rfl
 have y8:=HYC.out 8 _ rfl
 have y9:=HYC.out 9 _ rfl
 have y10:=HYC.out 10 _ rfl
 have y11:=HYC.out 11 _ rfl
 have y12:=HYC.out 12 _ rfl
 have y13:=HYC.out 13 _ rfl
 have y14:=HYC.out 14 _ rfl
 have y15:=HYC.out 15 _ rfl
 generalize w1.alloc (.cells #[.int .i64 0,.int .i64 0] 39)=w2 at *
 generalize w1.heap.size=g at *
 have HPR:=Lib.hid (printC4 worksD [.int .u8 7,.string ⟨#[116]⟩,.string ⟨#[]⟩,.bool false,d4,d5,d6,d7,d8,d9,d10,d11,d12,d13,d14,.int .i64 0] w2 (HW.out.later HB2.out) HSY0.out (fun w3 b hb=>stwDel b worksD rfl (worksEx ((HW.out.later HB2.out).later hb)) (by show (1:Nat) ≤ _;omega)) (Nat.le_trans works_len (by decide)) _ works_plain worksD worksSh works_again true (eqB_self _) ((ByteArray.data ⟨#[68,69,76,69,84,69,32,70,82,79,77,32,116,32,87,72,69,82,69,32,49,32,43,32,40,32,50,32,42,32,51,32,41]⟩).toList,0) (Lib.hid (fun h=>Bool.noConfusion h)) (Lib.hid (fun _=>rfl)))
 have qs:∀ W,(binOp .neq 39 (.agg #[.int .i64 0,.int .i64 0]) (.agg #[.int .i64 0,.int .i64 0])).run Tryz.prog W = .ok (.bool false) W:=fun W=>neq_toldS 0 0 0 0 false (by simp) W
 go_wp2_with fail
 refine HPR.out.mono ?_
 rintro e3 w3 ⟨t,rfl,ht,hb3⟩
 obtain rfl:t=⟨#[68,69,76,69,84,69,32,70,82,79,77,32,116,32,87,72,69,82,69,32,49,32,43,32,40,32,50,32,42,32,51,32,41]⟩:=ByteArray.ext (Array.toList_inj.1 ht)
 have HB3:=Lib.hid (next HB2.out hb3)
 have HSY:=Lib.hid (stR_below HSY0.out hb3)
 replace y0:=(hb3.cell (cell_lt y0)).trans y0
 replace y1:=(hb3.cell (cell_lt y1)).trans y1
 replace y2:=(hb3.cell (cell_lt y2)).trans y2
 replace y3:=(hb3.cell (cell_lt y3)).trans y3
 replace y4:=(hb3.cell (cell_lt y4)).trans y4
 replace y5:=(hb3.cell (cell_lt y5)).trans y5
 replace y6:=(hb3.cell (cell_lt y6)).trans y6
 replace y7:=(hb3.cell (cell_lt y7)).trans y7
 replace y8:=(hb3.cell (cell_lt y8)).trans y8
 replace y9:=(hb3.cell (cell_lt y9)).trans y9
 replace y10:=(hb3.cell (cell_lt y10)).trans y10
 replace y11:=(hb3.cell (cell_lt y11)).trans y11
 replace y12:=(hb3.cell (cell_lt y12)).trans y12
 replace y13:=(hb3.cell (cell_lt y13)).trans y13
 replace y14:=(hb3.cell (cell_lt y14)).trans y14
 replace y15:=(hb3.cell (cell_lt y15)).trans y15
 clear ht hb3 HPR s0 s1 qs
 go_upto_region 5 with fail
 refine wp_region_kip' (WorksKn yb yo vc d4 d5 d6 d7 d8 d9 d10 d11 d12 d13 d14) 64 (by simp) (by kernel_rfl) (by kernel_rfl) WorksKn.later ?_ ?_
 ·intro i hi A W hother hbW hd
  match i,hi with
  | 0,hi=>
   have h4:=tmps_at (show A.eval (.tmp 4) = .int .i64 0 from hother 4 (by kernel_rfl))
   clear hother hd hi
   exact kip_same rfl (wanted_none rfl) (.int .i64 0) (by simp only [execOp];go_simp) rfl
  | 1,hi=>
   have h24:=tmps_at ((hd _ rfl ⟨0,.data⟩ (by simp) rfl).eq (.int .i64 0) (fun _ h=>h) 24 (by kernel_rfl) (by decide))
   clear hother hd hi
   exact kip_same rfl (wanted_none rfl) (.bool true) (by simp only [execOp];go_simp) rfl
  | 2,hi=>
   have h25:=tmps_at ((hd _ rfl ⟨1,.data⟩ (by simp) rfl).eq (.bool true) (fun _ h=>h) 25 (by kernel_rfl) (by decide))
   clear hother hd hi
   exact kip_same rfl (wanted_none rfl) (.bool true) (by simp only [execOp];go_simp) rfl
  | 3,hi=>
   have h3:=tmps_at (show A.eval (.tmp 3) = .string ⟨#[68,69,76,69,84,69,32,70,82,79,77,32,116,32,87,72,69,82,69,32,49,32,43,32,40,32,50,32,42,32,51,32,41]⟩ from hother 3 (by kernel_rfl))
   have hgd:=(hd _ rfl ⟨2,.guard⟩ (by simp) rfl).eq (.bool true) (fun _ h=>h) 26 (by kernel_rfl) (by decide)
   clear hother hd hi
   exact kip_same rfl (wanted_some rfl (by kernel_rfl) hgd) (.string ⟨#[68,69,76,69,84,69,32,70,82,79,77,32,116,32,87,72,69,82,69,32,49,32,43,32,40,32,50,32,42,32,51,32,41]⟩) (by simp only [execOp];go_simp) rfl
  | 4,hi=>
   have h27:=tmps_at ((hd _ rfl ⟨3,.data⟩ (by simp) rfl).eq (.string ⟨#[68,69,76,69,84,69,32,70,82,79,77,32,116,32,87,72,69,82,69,32,49,32,43,32,40,32,50,32,42,32,51,32,41]⟩) (fun _ h=>h) 27 (by kernel_rfl) (by decide))
   have hgd:=(hd _ rfl ⟨2,.guard⟩ (by simp) rfl).eq (.bool true) (fun _ h=>h) 26 (by kernel_rfl) (by decide)
   clear hother hd hi
   exact kip_same rfl (wanted_some rfl (by kernel_rfl) hgd) (.bool true) (by simp only [execOp];go_simp) rfl
  | 5,hi=>
   have h26:=tmps_at ((hd _ rfl ⟨2,.data⟩ (by simp) rfl).eq (.bool true) (fun _ h=>h) 26 (by kernel_rfl) (by decide))
   have h28:=tmps_at ((hd _ rfl ⟨4,.data⟩ (by simp) rfl).eq (.bool true) (fun _ h=>h) 28 (by kernel_rfl) (by decide))
   clear hother hd hi
   exact kip_same rfl (wanted_none rfl) (.bool true) (by simp only [execOp];go_simp) rfl
  | 6,hi=>
   have h29:=tmps_at ((hd _ rfl ⟨5,.data⟩ (by simp) rfl).eq (.bool true) (fun _ h=>h) 29 (by kernel_rfl) (by decide))
   clear hother hd hi
   exact kip_same rfl (wanted_none rfl) (.bool true) (by simp only [execOp];go_simp) rfl
  | 7,hi=>
   have h1:=tmps_at (show A.eval (.tmp 1) = .slice (some ⟨yb,yo,none⟩) 1 vc from hother 1 (by kernel_rfl))
   have hgd:=(hd _ rfl ⟨6,.guard⟩ (by simp) rfl).eq (.bool true) (fun _ h=>h) 30 (by kernel_rfl) (by decide)
   clear hother hd hi
   exact kip_same rfl (wanted_some rfl (by kernel_rfl) hgd) (.slice (some ⟨yb,yo,none⟩) 1 vc) (by simp only [execOp];go_simp) rfl
  | 8,hi=>
   have h31:=tmps_at ((hd _ rfl ⟨7,.data⟩ (by simp) rfl).eq (.slice (some ⟨yb,yo,none⟩) 1 vc) (fun _ h=>h) 31 (by kernel_rfl) (by decide))
   have hgd:=(hd _ rfl ⟨6,.guard⟩ (by simp) rfl).eq (.bool true) (fun _ h=>h) 30 (by kernel_rfl) (by decide)
   clear hother hd hi
   exact kip_same rfl (wanted_some rfl (by kernel_rfl) hgd) (.pointer (some ⟨yb,yo,none⟩)) (by simp only [execOp];go_simp) rfl
  | 9,hi=>
   have h32:=tmps_at ((hd _ rfl ⟨8,.data⟩ (by simp) rfl).eq (.pointer (some ⟨yb,yo,none⟩)) (fun _ h=>h) 32 (by kernel_rfl) (by decide))
   have hgd:=(hd _ rfl ⟨6,.guard⟩ (by simp) rfl).eq (.bool true) (fun _ h=>h) 30 (by kernel_rfl) (by decide)
   have z0:=(hbW.cell (cell_lt y0)).trans y0
   have z1:=(hbW.cell (cell_lt y1)).trans y1
   have z2:=(hbW.cell (cell_lt y2)).trans y2
   have z3:=(hbW.cell (cell_lt y3)).trans y3
   have z4:=(hbW.cell (cell_lt y4)).trans y4
   have z5:=(hbW.cell (cell_lt y5)).trans y5
   have z6:=(hbW.cell (cell_lt y6)).trans y6
   have z7:=(hbW.cell (cell_lt y7)).trans y7
   have z8:=(hbW.cell (cell_lt y8)).trans y8
   have z9:=(hbW.cell (cell_lt y9)).trans y9
   have z10:=(hbW.cell (cell_lt y10)).trans y10
   have z11:=(hbW.cell (cell_lt y11)).trans y11
   have z12:=(hbW.cell (cell_lt y12)).trans y12
   have z13:=(hbW.cell (cell_lt y13)).trans y13
   have z14:=(hbW.cell (cell_lt y14)).trans y14
   have z15:=(hbW.cell (cell_lt y15)).trans y15
   clear hother hd hi
   exact kip_same rfl (wanted_some rfl (by kernel_rfl) hgd) (.agg #[.int .u8 7,.string ⟨#[116]⟩,.string ⟨#[]⟩,.bool false,d4,d5,d6,d7,d8,d9,d10,d11,d12,d13,d14,.int .i64 0]) (by simp only [execOp];go_simp) rfl
  | 10,hi=>
   have hgd:=(hd _ rfl ⟨6,.guard⟩ (by simp) rfl).eq (.bool true) (fun _ h=>h) 30 (by kernel_rfl) (by decide)
   clear hother hd hi
   exact kip_call rfl (wanted_some rfl (by kernel_rfl) hgd) 17 #[.int .i64 1] (by simp only [execOp];go_simp) ((numberL 1 W).mono fun e w2 hh=>⟨⟨_,hh.1,rfl⟩,hh.2⟩)
  | 11,hi=>
   have hgd:=(hd _ rfl ⟨6,.guard⟩ (by simp) rfl).eq (.bool true) (fun _ h=>h) 30 (by kernel_rfl) (by decide)
   clear hother hd hi
   exact kip_call rfl (wanted_some rfl (by kernel_rfl) hgd) 17 #[.int .i64 2] (by simp only [execOp];go_simp) ((numberL 2 W).mono fun e w2 hh=>⟨⟨_,hh.1,rfl⟩,hh.2⟩)
  | 12,hi=>
   have hgd:=(hd _ rfl ⟨6,.guard⟩ (by simp) rfl).eq (.bool true) (fun _ h=>h) 30 (by kernel_rfl) (by decide)
   clear hother hd hi
   exact kip_call rfl (wanted_some rfl (by kernel_rfl) hgd) 17 #[.int .i64 3] (by simp only [execOp];go_simp) ((numberL 3 W).mono fun e w2 hh=>⟨⟨_,hh.1,rfl⟩,hh.2⟩)
  | 13,hi=>
   have h35:=tmps_at ((hd _ rfl ⟨11,.data⟩ (by simp) rfl).eq (.agg #[.int .u8 1,.int .u8 1,.int .i64 2,.string ⟨#[]⟩,.string ⟨#[]⟩,.string ⟨#[]⟩,.int .i64 0,.slice none 0 0]) (fun _ h=>h) 35 (by kernel_rfl) (by decide))
   have h36:=tmps_at ((hd _ rfl ⟨12,.data⟩ (by simp) rfl).eq (.agg #[.int .u8 1,.int .u8 1,.int .i64 3,.string ⟨#[]⟩,.string ⟨#[]⟩,.string ⟨#[]⟩,.int .i64 0,.slice none 0 0]) (fun _ h=>h) 36 (by kernel_rfl) (by decide))
   have hgd:=(hd _ rfl ⟨6,.guard⟩ (by simp) rfl).eq (.bool true) (fun _ h=>h) 30 (by kernel_rfl) (by decide)
   clear hother hd hi
   exact kip_val rfl (wanted_some rfl (by kernel_rfl) hgd) (.slice (some ⟨W.heap.size,0,none⟩) 2 2) (W.alloc (.cells #[.int .u8 1,.int .u8 1,.int .i64 2,.string ⟨#[]⟩,.string ⟨#[]⟩,.string ⟨#[]⟩,.int .i64 0,.slice none 0 0,.int .u8 1,.int .u8 1,.int .i64 3,.string ⟨#[]⟩,.string ⟨#[]⟩,.string ⟨#[]⟩,.int .i64 0,.slice none 0 0] 48)) (by simp only [execOp];go_simp) ((Below.refl _ _).alloc (Nat.le_refl _) _) (exs_two W (PE.val1 ⟨1,2,⟨#[]⟩⟩) (PE.val1 ⟨1,3,⟨#[]⟩⟩) (.slice none 0 0) (.slice none 0 0) 48 (SlR.nil _ _ _) (SlR.nil _ _ _))
  | 14,hi=>
   obtain ⟨ov13,ok13,hx13⟩:=(hd _ rfl ⟨13,.data⟩ (by simp) rfl).get 37 (by kernel_rfl) (by decide)
   have hgd:=(hd _ rfl ⟨6,.guard⟩ (by simp) rfl).eq (.bool true) (fun _ h=>h) 30 (by kernel_rfl) (by decide)
   obtain ⟨ka,kc,hk,_⟩:=ok13.shape
   replace hk:ov13 = .slice ka 2 kc:=hk
   subst hk
   have h37:=tmps_at hx13
   clear hother hd hi
   exact kip_call rfl (wanted_some rfl (by kernel_rfl) hgd) 16 #[.int .u8 8,.slice ka 2 kc] (by simp only [execOp];go_simp) (ofL 8 ka kc [(PE.val1 ⟨1,2,⟨#[]⟩⟩),(PE.val1 ⟨1,3,⟨#[]⟩⟩)] W ok13)
  | 15,hi=>
   have h34:=tmps_at ((hd _ rfl ⟨10,.data⟩ (by simp) rfl).eq (.agg #[.int .u8 1,.int .u8 1,.int .i64 1,.string ⟨#[]⟩,.string ⟨#[]⟩,.string ⟨#[]⟩,.int .i64 0,.slice none 0 0]) (fun _ h=>h) 34 (by kernel_rfl) (by decide))
   obtain ⟨ov14,ok14,hx14⟩:=(hd _ rfl ⟨14,.data⟩ (by simp) rfl).get 38 (by kernel_rfl) (by decide)
   have hgd:=(hd _ rfl ⟨6,.guard⟩ (by simp) rfl).eq (.bool true) (fun _ h=>h) 30 (by kernel_rfl) (by decide)
   obtain ⟨kv,hk,hkv⟩:=ok14.open
   replace hk:ov14 = .agg #[.int .u8 8,.int .u8 0,.int .i64 0,.string ⟨#[]⟩,.string ⟨#[]⟩,.string ⟨#[]⟩,.int .i64 0,kv]:=hk
   subst hk
   have h38:=tmps_at hx14
   clear hother hd hi
   exact kip_val rfl (wanted_some rfl (by kernel_rfl) hgd) (.slice (some ⟨W.heap.size,0,none⟩) 2 2) (W.alloc (.cells #[.int .u8 1,.int .u8 1,.int .i64 1,.string ⟨#[]⟩,.string ⟨#[]⟩,.string ⟨#[]⟩,.int .i64 0,.slice none 0 0,.int .u8 8,.int .u8 0,.int .i64 0,.string ⟨#[]⟩,.string ⟨#[]⟩,.string ⟨#[]⟩,.int .i64 0,kv] 48)) (by simp only [execOp];go_simp) ((Below.refl _ _).alloc (Nat.le_refl _) _) (exs_two W (PE.val1 ⟨1,1,⟨#[]⟩⟩) (PE.node 8 [(PE.val1 ⟨1,2,⟨#[]⟩⟩),(PE.val1 ⟨1,3,⟨#[]⟩⟩)]) (.slice none 0 0) kv 48 (SlR.nil _ _ _) hkv)
  | 16,hi=>
   obtain ⟨ov15,ok15,hx15⟩:=(hd _ rfl ⟨15,.data⟩ (by simp) rfl).get 39 (by kernel_rfl) (by decide)
   have hgd:=(hd _ rfl ⟨6,.guard⟩ (by simp) rfl).eq (.bool true) (fun _ h=>h) 30 (by kernel_rfl) (by decide)
   obtain ⟨ka,kc,hk,_⟩:=ok15.shape
   replace hk:ov15 = .slice ka 2 kc:=hk
   subst hk
   have h39:=tmps_at hx15
   clear hother hd hi
   exact kip_call rfl (wanted_some rfl (by kernel_rfl) hgd) 16 #[.int .u8 6,.slice ka 2 kc] (by simp only [execOp];go_simp) (ofL 6 ka kc [(PE.val1 ⟨1,1,⟨#[]⟩⟩),(PE.node 8 [(PE.val1 ⟨1,2,⟨#[]⟩⟩),(PE.val1 ⟨1,3,⟨#[]⟩⟩)])] W ok15)
  | 17,hi=>
   obtain ⟨ov16,ok16,hx16⟩:=(hd _ rfl ⟨16,.data⟩ (by simp) rfl).get 40 (by kernel_rfl) (by decide)
   have hgd:=(hd _ rfl ⟨6,.guard⟩ (by simp) rfl).eq (.bool true) (fun _ h=>h) 30 (by kernel_rfl) (by decide)
   obtain ⟨kv,hk,hkv⟩:=ok16.open
   replace hk:ov16 = .agg #[.int .u8 6,.int .u8 0,.int .i64 0,.string ⟨#[]⟩,.string ⟨#[]⟩,.string ⟨#[]⟩,.int .i64 0,kv]:=hk
   subst hk
   have h40:=tmps_at hx16
   clear hother hd hi
   exact kip_val rfl (wanted_some rfl (by kernel_rfl) hgd) (.slice (some ⟨W.heap.size,0,none⟩) 1 1) (W.alloc (.cells #[.int .u8 6,.int .u8 0,.int .i64 0,.string ⟨#[]⟩,.string ⟨#[]⟩,.string ⟨#[]⟩,.int .i64 0,kv] 48)) (by simp only [execOp];go_simp) ((Below.refl _ _).alloc (Nat.le_refl _) _) (exs_one W (PE.node 6 [(PE.val1 ⟨1,1,⟨#[]⟩⟩),(PE.node 8 [(PE.val1 ⟨1,2,⟨#[]⟩⟩),(PE.val1 ⟨1,3,⟨#[]⟩⟩)])]) kv 48 hkv)
  | 18,hi=>
   obtain ⟨ov17,ok17,hx17⟩:=(hd _ rfl ⟨17,.data⟩ (by simp) rfl).get 41 (by kernel_rfl) (by decide)
   have hgd:=(hd _ rfl ⟨6,.guard⟩ (by simp) rfl).eq (.bool true) (fun _ h=>h) 30 (by kernel_rfl) (by decide)
   obtain ⟨ka,kc,hk,_⟩:=ok17.shape
   replace hk:ov17 = .slice ka 1 kc:=hk
   subst hk
   have h41:=tmps_at hx17
   clear hother hd hi
   exact kip_same rfl (wanted_some rfl (by kernel_rfl) hgd) (.agg #[.int .u8 7,.string ⟨#[116]⟩,.string ⟨#[]⟩,.bool false,.slice none 0 0,.slice none 0 0,.slice none 0 0,.slice none 0 0,.slice none 0 0,.slice none 0 0,.slice none 0 0,.slice ka 1 kc,.slice none 0 0,.slice none 0 0,.slice none 0 0,.int .i64 0]) (by simp only [execOp];go_simp) ⟨[.int .u8 7,.string ⟨#[116]⟩,.string ⟨#[]⟩,.bool false,.slice none 0 0,.slice none 0 0,.slice none 0 0,.slice none 0 0,.slice none 0 0,.slice none 0 0,.slice none 0 0,.slice ka 1 kc,.slice none 0 0,.slice none 0 0,.slice none 0 0,.int .i64 0],rfl,_,_,_,_,_,_,_,_,_,_,_,rfl,SlR.nil _ _ _,SlR.nil _ _ _,SlR.nil _ _ _,SlR.nil _ _ _,SlR.nil _ _ _,SlR.nil _ _ _,SlR.nil _ _ _,ok17,SlR.nil _ _ _,SlR.nil _ _ _,SlR.nil _ _ _⟩
  | 19,hi=>
   have h33:=tmps_at ((hd _ rfl ⟨9,.data⟩ (by simp) rfl).eq (.agg #[.int .u8 7,.string ⟨#[116]⟩,.string ⟨#[]⟩,.bool false,d4,d5,d6,d7,d8,d9,d10,d11,d12,d13,d14,.int .i64 0]) (fun _ h=>h) 33 (by kernel_rfl) (by decide))
   obtain ⟨ov18,ok18,hx18⟩:=(hd _ rfl ⟨18,.data⟩ (by simp) rfl).get 42 (by kernel_rfl) (by decide)
   have hgd:=(hd _ rfl ⟨6,.guard⟩ (by simp) rfl).eq (.bool true) (fun _ h=>h) 30 (by kernel_rfl) (by decide)
   obtain ⟨cs,hc,hst⟩:=ok18
   subst hc
   have h42:=tmps_at hx18
   clear hother hd hi
   exact kip_call rfl (wanted_some rfl (by kernel_rfl) hgd) 22 #[.agg #[.int .u8 7,.string ⟨#[116]⟩,.string ⟨#[]⟩,.bool false,d4,d5,d6,d7,d8,d9,d10,d11,d12,d13,d14,.int .i64 0],.agg cs.toArray] (by simp only [execOp];go_simp) ((sameSt worksSh worksD (stR_below HSY.out hbW) hst).mono fun e w2 hh=>⟨⟨_,hh.1,by rw [eqB_self];rfl⟩,hh.2⟩)
  | 20,hi=>
   have h30:=tmps_at ((hd _ rfl ⟨6,.data⟩ (by simp) rfl).eq (.bool true) (fun _ h=>h) 30 (by kernel_rfl) (by decide))
   have h43:=tmps_at ((hd _ rfl ⟨19,.data⟩ (by simp) rfl).eq (.bool true) (fun _ h=>h) 43 (by kernel_rfl) (by decide))
   clear hother hd hi
   exact kip_same rfl (wanted_none rfl) (.bool true) (by simp only [execOp];go_simp) rfl
  | 21,hi=>
   have h44:=tmps_at ((hd _ rfl ⟨20,.data⟩ (by simp) rfl).eq (.bool true) (fun _ h=>h) 44 (by kernel_rfl) (by decide))
   clear hother hd hi
   exact kip_same rfl (wanted_none rfl) (.bool true) (by simp only [execOp];go_simp) rfl
  | 22,hi=>
   have h1:=tmps_at (show A.eval (.tmp 1) = .slice (some ⟨yb,yo,none⟩) 1 vc from hother 1 (by kernel_rfl))
   have hgd:=(hd _ rfl ⟨21,.guard⟩ (by simp) rfl).eq (.bool true) (fun _ h=>h) 45 (by kernel_rfl) (by decide)
   clear hother hd hi
   exact kip_same rfl (wanted_some rfl (by kernel_rfl) hgd) (.slice (some ⟨yb,yo,none⟩) 1 vc) (by simp only [execOp];go_simp) rfl
  | 23,hi=>
   have h46:=tmps_at ((hd _ rfl ⟨22,.data⟩ (by simp) rfl).eq (.slice (some ⟨yb,yo,none⟩) 1 vc) (fun _ h=>h) 46 (by kernel_rfl) (by decide))
   have hgd:=(hd _ rfl ⟨21,.guard⟩ (by simp) rfl).eq (.bool true) (fun _ h=>h) 45 (by kernel_rfl) (by decide)
   clear hother hd hi
   exact kip_same rfl (wanted_some rfl (by kernel_rfl) hgd) (.pointer (some ⟨yb,yo,none⟩)) (by simp only [execOp];go_simp) rfl
  | 24,hi=>
   have h47:=tmps_at ((hd _ rfl ⟨23,.data⟩ (by simp) rfl).eq (.pointer (some ⟨yb,yo,none⟩)) (fun _ h=>h) 47 (by kernel_rfl) (by decide))
   have hgd:=(hd _ rfl ⟨21,.guard⟩ (by simp) rfl).eq (.bool true) (fun _ h=>h) 45 (by kernel_rfl) (by decide)
   have z0:=(hbW.cell (cell_lt y0)).trans y0
   have z1:=(hbW.cell (cell_lt y1)).trans y1
   have z2:=(hbW.cell (cell_lt y2)).trans y2
   have z3:=(hbW.cell (cell_lt y3)).trans y3
   have z4:=(hbW.cell (cell_lt y4)).trans y4
   have z5:=(hbW.cell (cell_lt y5)).trans y5
   have z6:=(hbW.cell (cell_lt y6)).trans y6
   have z7:=(hbW.cell (cell_lt y7)).trans y7
   have z8:=(hbW.cell (cell_lt y8)).trans y8
   have z9:=(hbW.cell (cell_lt y9)).trans y9
   have z10:=(hbW.cell (cell_lt y10)).trans y10
   have z11:=(hbW.cell (cell_lt y11)).trans y11
   have z12:=(hbW.cell (cell_lt y12)).trans y12
   have z13:=(hbW.cell (cell_lt y13)).trans y13
   have z14:=(hbW.cell (cell_lt y14)).trans y14
   have z15:=(hbW.cell (cell_lt y15)).trans y15
   clear hother hd hi
   exact kip_same rfl (wanted_some rfl (by kernel_rfl) hgd) (.agg #[.int .u8 7,.string ⟨#[116]⟩,.string ⟨#[]⟩,.bool false,d4,d5,d6,d7,d8,d9,d10,d11,d12,d13,d14,.int .i64 0]) (by simp only [execOp];go_simp) rfl
  | 25,hi=>
   have hgd:=(hd _ rfl ⟨21,.guard⟩ (by simp) rfl).eq (.bool true) (fun _ h=>h) 45 (by kernel_rfl) (by decide)
   clear hother hd hi
   exact kip_same rfl (wanted_some rfl (by kernel_rfl) hgd) (.agg #[.int .u8 0,.string ⟨#[]⟩,.string ⟨#[]⟩,.bool false,.slice none 0 0,.slice none 0 0,.slice none 0 0,.slice none 0 0,.slice none 0 0,.slice none 0 0,.slice none 0 0,.slice none 0 0,.slice none 0 0,.slice none 0 0,.slice none 0 0,.int .i64 0]) (by simp only [execOp];go_simp) rfl
  | 26,hi=>
   have h48:=tmps_at ((hd _ rfl ⟨24,.data⟩ (by simp) rfl).eq (.agg #[.int .u8 7,.string ⟨#[116]⟩,.string ⟨#[]⟩,.bool false,d4,d5,d6,d7,d8,d9,d10,d11,d12,d13,d14,.int .i64 0]) (fun _ h=>h) 48 (by kernel_rfl) (by decide))
   have h49:=tmps_at ((hd _ rfl ⟨25,.data⟩ (by simp) rfl).eq (.agg #[.int .u8 0,.string ⟨#[]⟩,.string ⟨#[]⟩,.bool false,.slice none 0 0,.slice none 0 0,.slice none 0 0,.slice none 0 0,.slice none 0 0,.slice none 0 0,.slice none 0 0,.slice none 0 0,.slice none 0 0,.slice none 0 0,.slice none 0 0,.int .i64 0]) (fun _ h=>h) 49 (by kernel_rfl) (by decide))
   have hgd:=(hd _ rfl ⟨21,.guard⟩ (by simp) rfl).eq (.bool true) (fun _ h=>h) 45 (by kernel_rfl) (by decide)
   clear hother hd hi
   exact kip_call rfl (wanted_some rfl (by kernel_rfl) hgd) 22 #[.agg #[.int .u8 7,.string ⟨#[116]⟩,.string ⟨#[]⟩,.bool false,d4,d5,d6,d7,d8,d9,d10,d11,d12,d13,d14,.int .i64 0],.agg #[.int .u8 0,.string ⟨#[]⟩,.string ⟨#[]⟩,.bool false,.slice none 0 0,.slice none 0 0,.slice none 0 0,.slice none 0 0,.slice none 0 0,.slice none 0 0,.slice none 0 0,.slice none 0 0,.slice none 0 0,.slice none 0 0,.slice none 0 0,.int .i64 0]] (by simp only [execOp];go_simp) ((sameSt worksSh {} (stR_below HSY.out hbW) (stR_zero W)).mono fun e w2 hh=>⟨⟨_,hh.1,by rw [works_ne];rfl⟩,hh.2⟩)
  | 27,hi=>
   have h50:=tmps_at ((hd _ rfl ⟨26,.data⟩ (by simp) rfl).eq (.bool false) (fun _ h=>h) 50 (by kernel_rfl) (by decide))
   have hgd:=(hd _ rfl ⟨21,.guard⟩ (by simp) rfl).eq (.bool true) (fun _ h=>h) 45 (by kernel_rfl) (by decide)
   clear hother hd hi
   exact kip_same rfl (wanted_some rfl (by kernel_rfl) hgd) (.bool true) (by simp only [execOp];go_simp) rfl
  | 28,hi=>
   have h45:=tmps_at ((hd _ rfl ⟨21,.data⟩ (by simp) rfl).eq (.bool true) (fun _ h=>h) 45 (by kernel_rfl) (by decide))
   have h51:=tmps_at ((hd _ rfl ⟨27,.data⟩ (by simp) rfl).eq (.bool true) (fun _ h=>h) 51 (by kernel_rfl) (by decide))
   clear hother hd hi
   exact kip_same rfl (wanted_none rfl) (.bool true) (by simp only [execOp];go_simp) rfl
  | 29,hi=>
   have h52:=tmps_at ((hd _ rfl ⟨28,.data⟩ (by simp) rfl).eq (.bool true) (fun _ h=>h) 52 (by kernel_rfl) (by decide))
   clear hother hd hi
   exact kip_same rfl (wanted_none rfl) (.bool true) (by simp only [execOp];go_simp) rfl
  | 30,hi=>
   have hgd:=(hd _ rfl ⟨29,.guard⟩ (by simp) rfl).eq (.bool true) (fun _ h=>h) 53 (by kernel_rfl) (by decide)
   clear hother hd hi
   exact kip_call rfl (wanted_some rfl (by kernel_rfl) hgd) 17 #[.int .i64 1] (by simp only [execOp];go_simp) ((numberL 1 W).mono fun e w2 hh=>⟨⟨_,hh.1,rfl⟩,hh.2⟩)
  | 31,hi=>
   have hgd:=(hd _ rfl ⟨29,.guard⟩ (by simp) rfl).eq (.bool true) (fun _ h=>h) 53 (by kernel_rfl) (by decide)
   clear hother hd hi
   exact kip_call rfl (wanted_some rfl (by kernel_rfl) hgd) 17 #[.int .i64 1] (by simp only [execOp];go_simp) ((numberL 1 W).mono fun e w2 hh=>⟨⟨_,hh.1,rfl⟩,hh.2⟩)
  | 32,hi=>
   have h54:=tmps_at ((hd _ rfl ⟨30,.data⟩ (by simp) rfl).eq (.agg #[.int .u8 1,.int .u8 1,.int .i64 1,.string ⟨#[]⟩,.string ⟨#[]⟩,.string ⟨#[]⟩,.int .i64 0,.slice none 0 0]) (fun _ h=>h) 54 (by kernel_rfl) (by decide))
   have h55:=tmps_at ((hd _ rfl ⟨31,.data⟩ (by simp) rfl).eq (.agg #[.int .u8 1,.int .u8 1,.int .i64 1,.string ⟨#[]⟩,.string ⟨#[]⟩,.string ⟨#[]⟩,.int .i64 0,.slice none 0 0]) (fun _ h=>h) 55 (by kernel_rfl) (by decide))
   have hgd:=(hd _ rfl ⟨29,.guard⟩ (by simp) rfl).eq (.bool true) (fun _ h=>h) 53 (by kernel_rfl) (by decide)
   clear hother hd hi
   exact kip_call rfl (wanted_some rfl (by kernel_rfl) hgd) 15 #[.agg #[.int .u8 1,.int .u8 1,.int .i64 1,.string ⟨#[]⟩,.string ⟨#[]⟩,.string ⟨#[]⟩,.int .i64 0,.slice none 0 0],.agg #[.int .u8 1,.int .u8 1,.int .i64 1,.string ⟨#[]⟩,.string ⟨#[]⟩,.string ⟨#[]⟩,.int .i64 0,.slice none 0 0]] (by simp only [execOp];go_simp) ((sameEx worksS1 (PE.val1 ⟨1,1,⟨#[]⟩⟩) (.slice none 0 0) (.slice none 0 0) W (SlR.nil _ _ _) (SlR.nil _ _ _)).mono fun e w2 hh=>⟨⟨_,hh.1,by rw [eqB_self];rfl⟩,hh.2⟩)
  | 33,hi=>
   have h53:=tmps_at ((hd _ rfl ⟨29,.data⟩ (by simp) rfl).eq (.bool true) (fun _ h=>h) 53 (by kernel_rfl) (by decide))
   have h56:=tmps_at ((hd _ rfl ⟨32,.data⟩ (by simp) rfl).eq (.bool true) (fun _ h=>h) 56 (by kernel_rfl) (by decide))
   clear hother hd hi
   exact kip_same rfl (wanted_none rfl) (.bool true) (by simp only [execOp];go_simp) rfl
  | 34,hi=>
   have h57:=tmps_at ((hd _ rfl ⟨33,.data⟩ (by simp) rfl).eq (.bool true) (fun _ h=>h) 57 (by kernel_rfl) (by decide))
   clear hother hd hi
   exact kip_same rfl (wanted_none rfl) (.bool true) (by simp only [execOp];go_simp) rfl
  | 35,hi=>
   have hgd:=(hd _ rfl ⟨34,.guard⟩ (by simp) rfl).eq (.bool true) (fun _ h=>h) 58 (by kernel_rfl) (by decide)
   clear hother hd hi
   exact kip_call rfl (wanted_some rfl (by kernel_rfl) hgd) 17 #[.int .i64 1] (by simp only [execOp];go_simp) ((numberL 1 W).mono fun e w2 hh=>⟨⟨_,hh.1,rfl⟩,hh.2⟩)
  | 36,hi=>
   have hgd:=(hd _ rfl ⟨34,.guard⟩ (by simp) rfl).eq (.bool true) (fun _ h=>h) 58 (by kernel_rfl) (by decide)
   clear hother hd hi
   exact kip_call rfl (wanted_some rfl (by kernel_rfl) hgd) 17 #[.int .i64 2] (by simp only [execOp];go_simp) ((numberL 2 W).mono fun e w2 hh=>⟨⟨_,hh.1,rfl⟩,hh.2⟩)
  | 37,hi=>
   have h59:=tmps_at ((hd _ rfl ⟨35,.data⟩ (by simp) rfl).eq (.agg #[.int .u8 1,.int .u8 1,.int .i64 1,.string ⟨#[]⟩,.string ⟨#[]⟩,.string ⟨#[]⟩,.int .i64 0,.slice none 0 0]) (fun _ h=>h) 59 (by kernel_rfl) (by decide))
   have h60:=tmps_at ((hd _ rfl ⟨36,.data⟩ (by simp) rfl).eq (.agg #[.int .u8 1,.int .u8 1,.int .i64 2,.string ⟨#[]⟩,.string ⟨#[]⟩,.string ⟨#[]⟩,.int .i64 0,.slice none 0 0]) (fun _ h=>h) 60 (by kernel_rfl) (by decide))
   have hgd:=(hd _ rfl ⟨34,.guard⟩ (by simp) rfl).eq (.bool true) (fun _ h=>h) 58 (by kernel_rfl) (by decide)
   clear hother hd hi
   exact kip_call rfl (wanted_some rfl (by kernel_rfl) hgd) 15 #[.agg #[.int .u8 1,.int .u8 1,.int .i64 1,.string ⟨#[]⟩,.string ⟨#[]⟩,.string ⟨#[]⟩,.int .i64 0,.slice none 0 0],.agg #[.int .u8 1,.int .u8 1,.int .i64 2,.string ⟨#[]⟩,.string ⟨#[]⟩,.string ⟨#[]⟩,.int .i64 0,.slice none 0 0]] (by simp only [execOp];go_simp) ((sameEx worksS1 (PE.val1 ⟨1,2,⟨#[]⟩⟩) (.slice none 0 0) (.slice none 0 0) W (SlR.nil _ _ _) (SlR.nil _ _ _)).mono fun e w2 hh=>⟨⟨_,hh.1,by rw [works_ne2];rfl⟩,hh.2⟩)
  | 38,hi=>
   have h61:=tmps_at ((hd _ rfl ⟨37,.data⟩ (by simp) rfl).eq (.bool false) (fun _ h=>h) 61 (by kernel_rfl) (by decide))
   have hgd:=(hd _ rfl ⟨34,.guard⟩ (by simp) rfl).eq (.bool true) (fun _ h=>h) 58 (by kernel_rfl) (by decide)
   clear hother hd hi
   exact kip_same rfl (wanted_some rfl (by kernel_rfl) hgd) (.bool true) (by simp only [execOp];go_simp) rfl
  | 39,hi=>
   have h58:=tmps_at ((hd _ rfl ⟨34,.data⟩ (by simp) rfl).eq (.bool true) (fun _ h=>h) 58 (by kernel_rfl) (by decide))
   have h62:=tmps_at ((hd _ rfl ⟨38,.data⟩ (by simp) rfl).eq (.bool true) (fun _ h=>h) 62 (by kernel_rfl) (by decide))
   clear hother hd hi
   exact kip_same rfl (wanted_none rfl) (.bool true) (by simp only [execOp];go_simp) rfl
  | 40,hi=>
   have h63:=tmps_at ((hd _ rfl ⟨39,.data⟩ (by simp) rfl).eq (.bool true) (fun _ h=>h) 63 (by kernel_rfl) (by decide))
   clear hother hd hi
   exact kip_same rfl (wanted_none rfl) (.bool true) (by simp only [execOp];go_simp) rfl
  | n + 41,hi=>simp at hi;omega
 intro F w14 hb14 hh hdf hsz
 have h0:F.eval (.tmp 0) = .bool true:=hh 40 0 (by simp) (by kernel_rfl) (show 0 < 64 by decide)
 have HBE:=Lib.hid (next HB3.out hb14)
 clear hh hb14
 go_wp2_with fail
 refine bodyPost_ret (results_tmp rfl F.tmps Tryz.prog w14) hdf ⟨?_,HBE.out⟩
 exact congrArg Ending.returned h0
end Go.Proofs.YtmdogmpcmkfjpaaGreatDoor.Dt
