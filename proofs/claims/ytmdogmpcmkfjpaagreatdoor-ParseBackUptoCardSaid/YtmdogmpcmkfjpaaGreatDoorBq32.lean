import Derived.Test.YtmdogmpcmkfjpaaGreatDoorBq31
set_option maxRecDepth 100000
set_option maxHeartbeats 64000000
/- Part. -/
namespace Go.Proofs.YtmdogmpcmkfjpaaGreatDoor.Dt
open Go.RowKit Go.Proofs.YtmdogmpcmkfjpaaGreatDoor.By
namespace nr555
theorem qR0 {p:Prop} (h:p:=by
 rw [hk] at p0
 have HT:Hid (Zb3 x l=Z8 (W1 Z6) x.wh (Ze [W1 Zdw,W1 Zck,W1 x.table] l)):=Lh kb7
 rw [HT.out] at HLN
 have p1:=HX.out.row.cell (i:=1) (v:=.string x.table) rfl
 have HP2:=Lh (Zas [Zdw,Zck,x.table] w1 b l wa HW.out (Nat.le_trans (Zbn _ _ _) HLN.out) kY)
 go_wp2_with fail
 refine HP2.out.mono ?_
 rintro e2 w2 ⟨rfl,hs2,hk2⟩
 have HW2:=Lh hs2
 have HK2:=Lh (HK0.out.trans hk2)
 have HQ2:=Lh (HQ.out.keep hk2)
 have HX2:=Lh (HX.out.keep hk2)
 clear hs2 hk2 HP2 c p0 p1
 have c:=HQ2.out.row.cell (i:=0) (v:=pV b) rfl
 have p11:=HX2.out.row.cell (i:=11) (v:=.slice a11 x.wh.length n11) rfl
 have HC:=Lh (Zko w1 b Z6 x.wh hE _ w2 _ HW2.out hw HLN.out hn)
 go_wp2_with fail
 refine HC.out.mono ?_
 rintro e3 w3 ⟨rfl,hs3,hk3⟩
 have HW3:=Lh hs3
 have HK3:=Lh (HK2.out.trans hk3)
 clear hs3 hk3 HC c p11
 go_wp2_with fail
 go_end0
 exact ⟨rfl,by rw [HT.out];exact HW3.out,HK3.out⟩):p:=h
end nr555
open nr555 in
theorem Zt0 (w1:World) (b:Nat) (x:PSt) (H_k:Hid (x.kind=7)) (hE:∀ e,e ∈ x.wh→EXW w1 b e) (a4 a5 a6 a7 a8 a9 a10 a11 a12 a13 a14:Option Addr) (n4 n5 n6 n7 n8 n9 n10 n11 n12 n13 n14:Nat) (l:List UInt8) (w:World) (h:WS w1 b l w) (hw:Zbq w1 (.slice a11 x.wh.length n11) x.wh) (hn:x.wh.length ≤ 140737488351232) (hlen:(Zb3 x l).length ≤ 140737488355328) :
 Calls Tryz.prog 24 #[pV b,.agg (sA x a4 n4 a5 n5 a6 n6 a7 n7 a8 n8 a9 n9 a10 n10 a11 n11 a12 n12 a13 n13 a14 n14)] w (Zbg w1 b (Zb3 x l) w):=by exact kp4
namespace nr556
theorem qR0 {p:Prop} (h:p:=by
 rw [hk] at p0
 have HT:Hid (Zb3 x l=Ze [W1 Zf5,W1 Zcj,W1 x.table] l):=Lh kb7
 rw [HT.out] at HLN
 have p1:=HX.out.row.cell (i:=1) (v:=.string x.table) rfl
 have HP2:=Lh (Zas [Zf5,Zcj,x.table] w1 b l wa HW.out (HLN.out) kY)
 go_wp2_with fail
 refine HP2.out.mono ?_
 rintro e2 w2 ⟨rfl,hs2,hk2⟩
 have HW2:=Lh hs2
 have HK2:=Lh (HK0.out.trans hk2)
 have HQ2:=Lh (HQ.out.keep hk2)
 have HX2:=Lh (HX.out.keep hk2)
 clear hs2 hk2 HP2 c p0 p1
 go_wp2_with fail
 go_end0
 exact ⟨rfl,by rw [HT.out];exact HW2.out,HK2.out⟩):p:=h
end nr556
open nr556 in
theorem stmtDrop (w1:World) (b:Nat) (x:PSt) (H_k:Hid (x.kind=2))  (a4 a5 a6 a7 a8 a9 a10 a11 a12 a13 a14:Option Addr) (n4 n5 n6 n7 n8 n9 n10 n11 n12 n13 n14:Nat) (l:List UInt8) (w:World) (h:WS w1 b l w) (hlen:(Zb3 x l).length ≤ 140737488355328) :
 Calls Tryz.prog 24 #[pV b,.agg (sA x a4 n4 a5 n5 a6 n6 a7 n7 a8 n8 a9 n9 a10 n10 a11 n11 a12 n12 a13 n13 a14 n14)] w (Zbg w1 b (Zb3 x l) w):=by exact kp4
namespace nr557
theorem qR0 {p:Prop} (h:p:=by
 rw [hk] at p0
 have HT:Hid (Zb3 x l=Ze [W1 Zf5,W1 Zbo,W1 x.name] l):=Lh kb7
 rw [HT.out] at HLN
 have p2:=HX.out.row.cell (i:=2) (v:=.string x.name) rfl
 have HP2:=Lh (Zas [Zf5,Zbo,x.name] w1 b l wa HW.out (HLN.out) kY)
 go_wp2_with fail
 refine HP2.out.mono ?_
 rintro e2 w2 ⟨rfl,hs2,hk2⟩
 have HW2:=Lh hs2
 have HK2:=Lh (HK0.out.trans hk2)
 have HQ2:=Lh (HQ.out.keep hk2)
 have HX2:=Lh (HX.out.keep hk2)
 clear hs2 hk2 HP2 c p0 p2
 go_wp2_with fail
 go_end0
 exact ⟨rfl,by rw [HT.out];exact HW2.out,HK2.out⟩):p:=h
end nr557
open nr557 in
theorem Zr5 (w1:World) (b:Nat) (x:PSt) (H_k:Hid (x.kind=4))  (a4 a5 a6 a7 a8 a9 a10 a11 a12 a13 a14:Option Addr) (n4 n5 n6 n7 n8 n9 n10 n11 n12 n13 n14:Nat) (l:List UInt8) (w:World) (h:WS w1 b l w) (hlen:(Zb3 x l).length ≤ 140737488355328) :
 Calls Tryz.prog 24 #[pV b,.agg (sA x a4 n4 a5 n5 a6 n6 a7 n7 a8 n8 a9 n9 a10 n10 a11 n11 a12 n12 a13 n13 a14 n14)] w (Zbg w1 b (Zb3 x l) w):=by exact kp4
namespace nr558
theorem qR0 {p:Prop} (h:p:=by
 rw [hk] at p0
 have HT:Hid (Zb3 x l=Ze [W1 q7_0] l):=Lh kb7
 rw [HT.out] at HLN
 have HP2:=Lh (Zas [q7_0] w1 b l wa HW.out (HLN.out) kY)
 go_wp2_with fail
 refine HP2.out.mono ?_
 rintro e2 w2 ⟨rfl,hs2,hk2⟩
 have HW2:=Lh hs2
 have HK2:=Lh (HK0.out.trans hk2)
 have HQ2:=Lh (HQ.out.keep hk2)
 have HX2:=Lh (HX.out.keep hk2)
 clear hs2 hk2 HP2 c p0
 go_wp2_with fail
 go_end0
 exact ⟨rfl,by rw [HT.out];exact HW2.out,HK2.out⟩):p:=h
end nr558
theorem kf7 {p:Prop} (h:p:=by exact kp4):p:=h
namespace n7_0
abbrev q7_0:=@Zgj
end n7_0
open nr558 in
open n7_0 in
theorem Zt1 (w1:World) (b:Nat) (x:PSt) (H_k:Hid (x.kind=9))  (a4 a5 a6 a7 a8 a9 a10 a11 a12 a13 a14:Option Addr) (n4 n5 n6 n7 n8 n9 n10 n11 n12 n13 n14:Nat) (l:List UInt8) (w:World) (h:WS w1 b l w) (hlen:(Zb3 x l).length ≤ 140737488355328) :
 Calls Tryz.prog 24 #[pV b,.agg (sA x a4 n4 a5 n5 a6 n6 a7 n7 a8 n8 a9 n9 a10 n10 a11 n11 a12 n12 a13 n13 a14 n14)] w (Zbg w1 b (Zb3 x l) w):=by exact kf7
namespace n7_1
abbrev q7_0:=@Zd6
end n7_1
open nr558 in
open n7_1 in
theorem Zr6 (w1:World) (b:Nat) (x:PSt) (H_k:Hid (x.kind=10))  (a4 a5 a6 a7 a8 a9 a10 a11 a12 a13 a14:Option Addr) (n4 n5 n6 n7 n8 n9 n10 n11 n12 n13 n14:Nat) (l:List UInt8) (w:World) (h:WS w1 b l w) (hlen:(Zb3 x l).length ≤ 140737488355328) :
 Calls Tryz.prog 24 #[pV b,.agg (sA x a4 n4 a5 n5 a6 n6 a7 n7 a8 n8 a9 n9 a10 n10 a11 n11 a12 n12 a13 n13 a14 n14)] w (Zbg w1 b (Zb3 x l) w):=by exact kf7
namespace n7_2
abbrev q7_0:=@Zay
end n7_2
open nr558 in
open n7_2 in
theorem stmtRoll (w1:World) (b:Nat) (x:PSt) (H_k:Hid (x.kind=11))  (a4 a5 a6 a7 a8 a9 a10 a11 a12 a13 a14:Option Addr) (n4 n5 n6 n7 n8 n9 n10 n11 n12 n13 n14:Nat) (l:List UInt8) (w:World) (h:WS w1 b l w) (hlen:(Zb3 x l).length ≤ 140737488355328) :
 Calls Tryz.prog 24 #[pV b,.agg (sA x a4 n4 a5 n5 a6 n6 a7 n7 a8 n8 a9 n9 a10 n10 a11 n11 a12 n12 a13 n13 a14 n14)] w (Zbg w1 b (Zb3 x l) w):=by exact kf7
namespace nr559
theorem qR0 {p:Prop} (h:p:=by
 rw [hk] at p0
 have HT:Hid (Zb3 x l=Ze [W1 q8_0,W1 x.name] l):=Lh kb7
 rw [HT.out] at HLN
 have p2:=HX.out.row.cell (i:=2) (v:=.string x.name) rfl
 have HP2:=Lh (Zas [q8_0,x.name] w1 b l wa HW.out (HLN.out) kY)
 go_wp2_with fail
 refine HP2.out.mono ?_
 rintro e2 w2 ⟨rfl,hs2,hk2⟩
 have HW2:=Lh hs2
 have HK2:=Lh (HK0.out.trans hk2)
 have HQ2:=Lh (HQ.out.keep hk2)
 have HX2:=Lh (HX.out.keep hk2)
 clear hs2 hk2 HP2 c p0 p2
 go_wp2_with fail
 go_end0
 exact ⟨rfl,by rw [HT.out];exact HW2.out,HK2.out⟩):p:=h
end nr559
theorem kf8 {p:Prop} (h:p:=by exact kp4):p:=h
namespace n8_0
abbrev q8_0:=@Za9
end n8_0
open nr559 in
open n8_0 in
theorem stmtSave (w1:World) (b:Nat) (x:PSt) (H_k:Hid (x.kind=12))  (a4 a5 a6 a7 a8 a9 a10 a11 a12 a13 a14:Option Addr) (n4 n5 n6 n7 n8 n9 n10 n11 n12 n13 n14:Nat) (l:List UInt8) (w:World) (h:WS w1 b l w) (hlen:(Zb3 x l).length ≤ 140737488355328) :
 Calls Tryz.prog 24 #[pV b,.agg (sA x a4 n4 a5 n5 a6 n6 a7 n7 a8 n8 a9 n9 a10 n10 a11 n11 a12 n12 a13 n13 a14 n14)] w (Zbg w1 b (Zb3 x l) w):=by exact kf8
namespace nr560
theorem qR0 {p:Prop} (h:p:=by
 rw [hk] at p0
 have HT:Hid (Zb3 x l=Ze [W1 Zay,W1 WTO,W1 x.name] l):=Lh kb7
 rw [HT.out] at HLN
 have p2:=HX.out.row.cell (i:=2) (v:=.string x.name) rfl
 have HP2:=Lh (Zas [Zay,WTO,x.name] w1 b l wa HW.out (HLN.out) kY)
 go_wp2_with fail
 refine HP2.out.mono ?_
 rintro e2 w2 ⟨rfl,hs2,hk2⟩
 have HW2:=Lh hs2
 have HK2:=Lh (HK0.out.trans hk2)
 have HQ2:=Lh (HQ.out.keep hk2)
 have HX2:=Lh (HX.out.keep hk2)
 clear hs2 hk2 HP2 c p0 p2
 go_wp2_with fail
 go_end0
 exact ⟨rfl,by rw [HT.out];exact HW2.out,HK2.out⟩):p:=h
end nr560
open nr560 in
theorem Zr7 (w1:World) (b:Nat) (x:PSt) (H_k:Hid (x.kind=13))  (a4 a5 a6 a7 a8 a9 a10 a11 a12 a13 a14:Option Addr) (n4 n5 n6 n7 n8 n9 n10 n11 n12 n13 n14:Nat) (l:List UInt8) (w:World) (h:WS w1 b l w) (hlen:(Zb3 x l).length ≤ 140737488355328) :
 Calls Tryz.prog 24 #[pV b,.agg (sA x a4 n4 a5 n5 a6 n6 a7 n7 a8 n8 a9 n9 a10 n10 a11 n11 a12 n12 a13 n13 a14 n14)] w (Zbg w1 b (Zb3 x l) w):=by exact kp4
namespace n8_1
abbrev q8_0:=@Zcv
end n8_1
open nr559 in
open n8_1 in
theorem Zpn (w1:World) (b:Nat) (x:PSt) (H_k:Hid (x.kind=14))  (a4 a5 a6 a7 a8 a9 a10 a11 a12 a13 a14:Option Addr) (n4 n5 n6 n7 n8 n9 n10 n11 n12 n13 n14:Nat) (l:List UInt8) (w:World) (h:WS w1 b l w) (hlen:(Zb3 x l).length ≤ 140737488355328) :
 Calls Tryz.prog 24 #[pV b,.agg (sA x a4 n4 a5 n5 a6 n6 a7 n7 a8 n8 a9 n9 a10 n10 a11 n11 a12 n12 a13 n13 a14 n14)] w (Zbg w1 b (Zb3 x l) w):=by exact kf8
namespace nr561
theorem qR0 {p:Prop} (h:p:=by
 rw [hk] at p0
 have HT:Hid (Zb3 x l=Z8 (W1 Z6) x.wh (Zm setT true x.sets (Ze [W1 Zdd,W1 x.table,W1 Zpa] l))):=Lh kb7
 rw [HT.out] at HLN
 have hsl:∀ (x:ByteArray × PE) (a:List UInt8),a.length ≤ (setT x a).length:=fun x a=>Nat.le_trans (Zk _ _) (Zdg _ _)
 have HSL:=Lh hsl
 have HN:=Lh (And.intro hn hn8)
 clear hsl hn hn8
 have p1:=HX.out.row.cell (i:=1) (v:=.string x.table) rfl
 have HP2:=Lh (Zas [Zdd,x.table,Zpa] w1 b l wa HW.out (Nat.le_trans (Nat.le_trans (Za8 HSL.out _ _ _) (Zbn _ _ _)) HLN.out) kY)
 go_wp2_with fail
 refine HP2.out.mono ?_
 rintro e2 w2 ⟨rfl,hs2,hk2⟩
 have HW2:=Lh hs2
 have HK2:=Lh (HK0.out.trans hk2)
 have HQ2:=Lh (HQ.out.keep hk2)
 have HX2:=Lh (HX.out.keep hk2)
 clear hs2 hk2 HP2 c p0 p1
 have c:=HQ2.out.row.cell (i:=0) (v:=pV b) rfl
 have p8:=HX2.out.row.cell (i:=8) (v:=.slice a8 x.sets.length n8) rfl
 have HC3:=Lh (Zwk w1 b q setT HSL.out x.sets _ w2 _ HW2.out hws HQ2.out (fun e l w kv he hws2 hq2 hl hk2=>setOneW w1 b q e (hS e he) l w kv hws2 hq2 hk2 hl) (Nat.le_trans (Zbn _ _ _) HLN.out) HN.out.2)
 go_wp2_with fail
 refine HC3.out.mono ?_
 rintro e3 w3 ⟨rfl,hs3,hk3⟩
 have HW3:=Lh hs3
 have HK3:=Lh (HK2.out.trans hk3)
 have HQ3:=Lh (HQ2.out.keep hk3)
 have HX3:=Lh (HX2.out.keep hk3)
 clear hs3 hk3 HC3 c p8
 have c:=HQ3.out.row.cell (i:=0) (v:=pV b) rfl
 have p11:=HX3.out.row.cell (i:=11) (v:=.slice a11 x.wh.length n11) rfl
 have HC4:=Lh (Zko w1 b Z6 x.wh hE _ w3 _ HW3.out hw HLN.out HN.out.1)
 go_wp2_with fail
 refine HC4.out.mono ?_
 rintro e4 w4 ⟨rfl,hs4,hk4⟩
 have HW4:=Lh hs4
 have HK4:=Lh (HK3.out.trans hk4)
 have HQ4:=Lh (HQ3.out.keep hk4)
 have HX4:=Lh (HX3.out.keep hk4)
 clear hs4 hk4 HC4 c p11
 go_wp2_with fail
 go_end0
 exact ⟨rfl,by rw [HT.out];exact HW4.out,HK4.out⟩):p:=h
end nr561
open nr561 in
theorem Zr3 (w1:World) (b:Nat) (x:PSt) (H_k:Hid (x.kind=6)) (hE:∀ e,e ∈ x.wh→EXW w1 b e) (hS:∀ e,e ∈ x.sets→EXW w1 b e.2) (a4 a5 a6 a7 a8 a9 a10 a11 a12 a13 a14:Option Addr) (n4 n5 n6 n7 n8 n9 n10 n11 n12 n13 n14:Nat) (l:List UInt8) (w:World) (h:WS w1 b l w) (hw:Zbq w1 (.slice a11 x.wh.length n11) x.wh) (hn:x.wh.length ≤ 140737488351232) (hws:SlR 9 Zm3 w1 (.slice a8 x.sets.length n8) x.sets) (hn8:x.sets.length ≤ 140737488351232) (hlen:(Zb3 x l).length ≤ 140737488355328) :
 Calls Tryz.prog 24 #[pV b,.agg (sA x a4 n4 a5 n5 a6 n6 a7 n7 a8 n8 a9 n9 a10 n10 a11 n11 a12 n12 a13 n13 a14 n14)] w (Zbg w1 b (Zb3 x l) w):=by exact kp4
namespace nr562
theorem qR0 {p:Prop} (h:p:=by
 rw [hk] at p0
 have HT:Hid (Zb3 x l=Zm Zuc true x.rows (Ze [W1 Zcy] (Zdz x.names (Ze [W1 Zcq,W1 Zf4,W1 x.table] l)))):=Lh kb7
 rw [HT.out] at HLN
 have HN:=Lh (And.intro hn6 hn7)
 clear hn6 hn7
 have HL3:Hid ((Ze [W1 Zcy] (Zdz x.names (Ze [W1 Zcq,W1 Zf4,W1 x.table] l))).length ≤ 140737488355328):=Lh (Nat.le_trans (Za8 Zqx _ _ _) HLN.out)
 have HL2:Hid ((Zdz x.names (Ze [W1 Zcq,W1 Zf4,W1 x.table] l)).length ≤ 140737488355328):=Lh (Nat.le_trans (Zk _ _) HL3.out)
 have p1:=HX.out.row.cell (i:=1) (v:=.string x.table) rfl
 have HP2:=Lh (Zas [Zcq,Zf4,x.table] w1 b l wa HW.out (Nat.le_trans (Zfh _ _) HL2.out) kY)
 go_wp2_with fail
 refine HP2.out.mono ?_
 rintro e2 w2 ⟨rfl,hs2,hk2⟩
 have HW2:=Lh hs2
 have HK2:=Lh (HK0.out.trans hk2)
 have HQ2:=Lh (HQ.out.keep hk2)
 have HX2:=Lh (HX.out.keep hk2)
 clear hs2 hk2 HP2 c p0 p1
 have c:=HQ2.out.row.cell (i:=0) (v:=pV b) rfl
 have p6:=HX2.out.row.cell (i:=6) (v:=.slice a6 x.names.length n6) rfl
 have HC3:=Lh (Zpi w1 b x.names _ w2 _ HW2.out hwn HL2.out HN.out.1)
 go_wp2_with fail
 refine HC3.out.mono ?_
 rintro e3 w3 ⟨rfl,hs3,hk3⟩
 have HW3:=Lh hs3
 have HK3:=Lh (HK2.out.trans hk3)
 have HQ3:=Lh (HQ2.out.keep hk3)
 have HX3:=Lh (HX2.out.keep hk3)
 clear hs3 hk3 HC3 c p6
 have c:=HQ3.out.row.cell (i:=0) (v:=pV b) rfl
 have HP4:=Lh (Zas [Zcy] w1 b _ w3 HW3.out (HL3.out) kY)
 go_wp2_with fail
 refine HP4.out.mono ?_
 rintro e4 w4 ⟨rfl,hs4,hk4⟩
 have HW4:=Lh hs4
 have HK4:=Lh (HK3.out.trans hk4)
 have HQ4:=Lh (HQ3.out.keep hk4)
 have HX4:=Lh (HX3.out.keep hk4)
 clear hs4 hk4 HP4 c
 have c:=HQ4.out.row.cell (i:=0) (v:=pV b) rfl
 have p7:=HX4.out.row.cell (i:=7) (v:=.slice a7 x.rows.length n7) rfl
 have HC5:=Lh (Zwl w1 b q Zuc Zqx x.rows _ w4 _ HW4.out hwr HQ4.out (fun r l w kv hr hws2 hq2 hl hk2=>rowOneW w1 b q r (hE r hr).1 l w kv hws2 hq2 hk2 hl (hE r hr).2) HLN.out HN.out.2)
 go_wp2_with fail
 refine HC5.out.mono ?_
 rintro e5 w5 ⟨rfl,hs5,hk5⟩
 have HW5:=Lh hs5
 have HK5:=Lh (HK4.out.trans hk5)
 have HQ5:=Lh (HQ4.out.keep hk5)
 have HX5:=Lh (HX4.out.keep hk5)
 clear hs5 hk5 HC5 c p7
 go_wp2_with fail
 go_end0
 exact ⟨rfl,by rw [HT.out];exact HW5.out,HK5.out⟩):p:=h
end nr562
open nr562 in
theorem Zr4 (w1:World) (b:Nat) (x:PSt) (H_k:Hid (x.kind=5)) (hE:∀ r,r ∈ x.rows→(∀ e,e ∈ r→EXW w1 b e)∧r.length ≤ 140737488351232) (a4 a5 a6 a7 a8 a9 a10 a11 a12 a13 a14:Option Addr) (n4 n5 n6 n7 n8 n9 n10 n11 n12 n13 n14:Nat) (l:List UInt8) (w:World) (h:WS w1 b l w) (hwn:SlR 1 Zqc w1 (.slice a6 x.names.length n6) x.names) (hn6:x.names.length ≤ 140737488351232) (hwr:SlR 1 Zo3 w1 (.slice a7 x.rows.length n7) x.rows) (hn7:x.rows.length ≤ 140737488351232) (hlen:(Zb3 x l).length ≤ 140737488355328) :
 Calls Tryz.prog 24 #[pV b,.agg (sA x a4 n4 a5 n5 a6 n6 a7 n7 a8 n8 a9 n9 a10 n10 a11 n11 a12 n12 a13 n13 a14 n14)] w (Zbg w1 b (Zb3 x l) w):=by exact kp4
namespace nr563
theorem qR0 {p:Prop} (h:p:=by
 have HT:Hid (Zb3 x l=l):=Lh (by unfold Zb3;rw [if_neg kW,if_neg kW,if_neg kW,if_neg kW,if_neg kW,if_neg kW,if_neg kW,if_neg kW,if_neg kW,if_neg kW,if_neg kW,if_neg kW,if_neg kW])
 have k1:((x.kind:Int) == 1)=false:=beq_eq_false_iff_ne.2 kW
 have k2:((x.kind:Int) == 2)=false:=beq_eq_false_iff_ne.2 kW
 have k3:((x.kind:Int) == 3)=false:=beq_eq_false_iff_ne.2 kW
 have k4:((x.kind:Int) == 4)=false:=beq_eq_false_iff_ne.2 kW
 have k5:((x.kind:Int) == 5)=false:=beq_eq_false_iff_ne.2 kW
 have k6:((x.kind:Int) == 6)=false:=beq_eq_false_iff_ne.2 kW
 have k7:((x.kind:Int) == 7)=false:=beq_eq_false_iff_ne.2 kW
 have k8:((x.kind:Int) == 8)=false:=beq_eq_false_iff_ne.2 kW
 have k9:((x.kind:Int) == 9)=false:=beq_eq_false_iff_ne.2 kW
 have k10:((x.kind:Int) == 10)=false:=beq_eq_false_iff_ne.2 kW
 have k11:((x.kind:Int) == 11)=false:=beq_eq_false_iff_ne.2 kW
 have k12:((x.kind:Int) == 12)=false:=beq_eq_false_iff_ne.2 kW
 have k13:((x.kind:Int) == 13)=false:=beq_eq_false_iff_ne.2 kW
 have k14:((x.kind:Int) == 14)=false:=beq_eq_false_iff_ne.2 kW
 clear hk
 go_wp2_with fail
 go_end0
 exact ⟨rfl,by rw [HT.out];exact HW.out,HK0.out⟩):p:=h
end nr563
open nr563 in
theorem stmtNone (w1:World) (b:Nat) (x:PSt) (H_k:Hid (x.kind=0 ∨ 14 < x.kind))  (a4 a5 a6 a7 a8 a9 a10 a11 a12 a13 a14:Option Addr) (n4 n5 n6 n7 n8 n9 n10 n11 n12 n13 n14:Nat) (l:List UInt8) (w:World) (h:WS w1 b l w) (hlen:(Zb3 x l).length ≤ 140737488355328) :
 Calls Tryz.prog 24 #[pV b,.agg (sA x a4 n4 a5 n5 a6 n6 a7 n7 a8 n8 a9 n9 a10 n10 a11 n11 a12 n12 a13 n13 a14 n14)] w (Zbg w1 b (Zb3 x l) w):=by exact kp4
end Go.Proofs.YtmdogmpcmkfjpaaGreatDoor.Dt
