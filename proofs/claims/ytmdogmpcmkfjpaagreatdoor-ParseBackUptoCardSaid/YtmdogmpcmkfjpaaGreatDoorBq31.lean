import Derived.Test.YtmdogmpcmkfjpaaGreatDoorBq30
set_option maxRecDepth 100000
set_option maxHeartbeats 64000000
/- Part. -/
namespace Go.Proofs.YtmdogmpcmkfjpaaGreatDoor.Dt
open Go.RowKit Go.Proofs.YtmdogmpcmkfjpaaGreatDoor.By
theorem setOneW (w1:World) (b q:Nat) (x:ByteArray × PE) (hE:EXW w1 b x.2) (l:List UInt8) (w:World) (kv:Value) (h:WS w1 b l w) (hq:BX b q 61 #[pV b] w) (hk:Zbq w1 kv x.2.kids) (hlen:(setT x l).length ≤ 140737488355328) :
 Calls Tryz.prog 66 #[.agg #[.string x.1,.int .u8 (x.2.op:Int),.int .u8 (x.2.v.k:Int),.int .i64 x.2.v.n,.string x.2.v.s,.string x.2.t,.string x.2.m,.int .i64 x.2.n,kv],pV q] w (Zbg w1 b (setT x l) w):=by
 obtain ⟨ja,jc,rfl,_⟩:=hk.shape
 have HE:=Lh hE
 have HK:=Lh hk
 have HLN:=Lh hlen
 have HQ0:=Lh hq
 have HX:=Lh (h.box 94 #[.string x.1,.int .u8 (x.2.op:Int),.int .u8 (x.2.v.k:Int),.int .i64 x.2.v.n,.string x.2.v.s,.string x.2.t,.string x.2.m,.int .i64 x.2.n,.slice ja x.2.kids.length jc])
 have HW:=Lh (h.alloc (.cells #[.string x.1,.int .u8 (x.2.op:Int),.int .u8 (x.2.v.k:Int),.int .i64 x.2.v.n,.string x.2.v.s,.string x.2.t,.string x.2.m,.int .i64 x.2.n,.slice ja x.2.kids.length jc] 94))
 have HK0:=Lh (h.keepAlloc (.cells #[.string x.1,.int .u8 (x.2.op:Int),.int .u8 (x.2.v.k:Int),.int .i64 x.2.v.n,.string x.2.v.s,.string x.2.t,.string x.2.m,.int .i64 x.2.n,.slice ja x.2.kids.length jc] 94))
 have HQ:=Lh (hq.keep (h.keepAlloc (.cells #[.string x.1,.int .u8 (x.2.op:Int),.int .u8 (x.2.v.k:Int),.int .i64 x.2.v.n,.string x.2.v.s,.string x.2.t,.string x.2.m,.int .i64 x.2.n,.slice ja x.2.kids.length jc] 94)))
 clear h hk hlen hE hq
 go_enter Tryz.func66,Tryz.ntmps66
 go_upto_region 1 with fail
 generalize w.alloc (.cells #[.string x.1,.int .u8 (x.2.op:Int),.int .u8 (x.2.v.k:Int),.int .i64 x.2.v.n,.string x.2.v.s,.string x.2.t,.string x.2.m,.int .i64 x.2.n,.slice ja x.2.kids.length jc] 94)=wa at *
 generalize w.heap.size=qx at *
 have c:=HQ.out.row.cell (i:=0) (v:=pV b) rfl
 have p0:=HX.out.row.cell (i:=0) (v:=.string x.1) rfl
 have p1:=HX.out.row.cell (i:=1) (v:=.int .u8 (x.2.op:Int)) rfl
 have p2:=HX.out.row.cell (i:=2) (v:=.int .u8 (x.2.v.k:Int)) rfl
 have p3:=HX.out.row.cell (i:=3) (v:=.int .i64 x.2.v.n) rfl
 have p4:=HX.out.row.cell (i:=4) (v:=.string x.2.v.s) rfl
 have p5:=HX.out.row.cell (i:=5) (v:=.string x.2.t) rfl
 have p6:=HX.out.row.cell (i:=6) (v:=.string x.2.m) rfl
 have p7:=HX.out.row.cell (i:=7) (v:=.int .i64 x.2.n) rfl
 have p8:=HX.out.row.cell (i:=8) (v:=.slice ja x.2.kids.length jc) rfl
 unfold setT at HLN ⊢
 have HP2:=Lh (Zas [x.1,BEQ] w1 b l wa HW.out (Nat.le_trans (Zdg _ _) HLN.out) kY)
 go_wp2_with fail
 refine HP2.out.mono ?_
 rintro e2 w2 ⟨rfl,hs2,hk2⟩
 have HW2:=Lh hs2
 have HK2:=Lh (HK0.out.trans hk2)
 have HQ2:=Lh (HQ.out.keep hk2)
 have HX2:=Lh (HX.out.keep hk2)
 clear hs2 hk2 HP2 c p0 p1 p2 p3 p4 p5 p6 p7 p8
 have c:=HQ2.out.row.cell (i:=0) (v:=pV b) rfl
 have p0:=HX2.out.row.cell (i:=0) (v:=.string x.1) rfl
 have p1:=HX2.out.row.cell (i:=1) (v:=.int .u8 (x.2.op:Int)) rfl
 have p2:=HX2.out.row.cell (i:=2) (v:=.int .u8 (x.2.v.k:Int)) rfl
 have p3:=HX2.out.row.cell (i:=3) (v:=.int .i64 x.2.v.n) rfl
 have p4:=HX2.out.row.cell (i:=4) (v:=.string x.2.v.s) rfl
 have p5:=HX2.out.row.cell (i:=5) (v:=.string x.2.t) rfl
 have p6:=HX2.out.row.cell (i:=6) (v:=.string x.2.m) rfl
 have p7:=HX2.out.row.cell (i:=7) (v:=.int .i64 x.2.n) rfl
 have p8:=HX2.out.row.cell (i:=8) (v:=.slice ja x.2.kids.length jc) rfl
 have hc3:=HE.out _ w2 _ HW2.out HK.out (HLN.out)
 unfold PE.val at hc3
 have HC3:=Lh hc3
 clear hc3
 go_wp2_with fail
 refine HC3.out.mono ?_
 rintro e3 w3 ⟨rfl,hs3,hk3⟩
 have HW3:=Lh hs3
 have HK3:=Lh (HK2.out.trans hk3)
 have HQ3:=Lh (HQ2.out.keep hk3)
 have HX3:=Lh (HX2.out.keep hk3)
 clear hs3 hk3 HC3 c p0 p1 p2 p3 p4 p5 p6 p7 p8
 go_wp2_with fail
 go_end0
 exact ⟨rfl,HW3.out,HK3.out⟩
theorem itemOneW (w1:World) (b q:Nat) (x:PE × ByteArray) (hE:EXW w1 b x.1) (l:List UInt8) (w:World) (kv:Value) (h:WS w1 b l w) (hq:BX b q 61 #[pV b] w) (hk:Zbq w1 kv x.1.kids) (hlen:(Zk1 x l).length ≤ 140737488355328) :
 Calls Tryz.prog 101 #[.agg #[.int .u8 (x.1.op:Int),.int .u8 (x.1.v.k:Int),.int .i64 x.1.v.n,.string x.1.v.s,.string x.1.t,.string x.1.m,.int .i64 x.1.n,kv,.string x.2],pV q] w (Zbg w1 b (Zk1 x l) w):=by
 obtain ⟨ja,jc,rfl,_⟩:=hk.shape
 have HE:=Lh hE
 have HK:=Lh hk
 have HLN:=Lh hlen
 have HQ0:=Lh hq
 have HX:=Lh (h.box 106 #[.int .u8 (x.1.op:Int),.int .u8 (x.1.v.k:Int),.int .i64 x.1.v.n,.string x.1.v.s,.string x.1.t,.string x.1.m,.int .i64 x.1.n,.slice ja x.1.kids.length jc,.string x.2])
 have HW:=Lh (h.alloc (.cells #[.int .u8 (x.1.op:Int),.int .u8 (x.1.v.k:Int),.int .i64 x.1.v.n,.string x.1.v.s,.string x.1.t,.string x.1.m,.int .i64 x.1.n,.slice ja x.1.kids.length jc,.string x.2] 106))
 have HK0:=Lh (h.keepAlloc (.cells #[.int .u8 (x.1.op:Int),.int .u8 (x.1.v.k:Int),.int .i64 x.1.v.n,.string x.1.v.s,.string x.1.t,.string x.1.m,.int .i64 x.1.n,.slice ja x.1.kids.length jc,.string x.2] 106))
 have HQ:=Lh (hq.keep (h.keepAlloc (.cells #[.int .u8 (x.1.op:Int),.int .u8 (x.1.v.k:Int),.int .i64 x.1.v.n,.string x.1.v.s,.string x.1.t,.string x.1.m,.int .i64 x.1.n,.slice ja x.1.kids.length jc,.string x.2] 106)))
 clear h hk hlen hE hq
 go_enter Tryz.func101,Tryz.ntmps101
 go_upto_region 1 with fail
 generalize w.alloc (.cells #[.int .u8 (x.1.op:Int),.int .u8 (x.1.v.k:Int),.int .i64 x.1.v.n,.string x.1.v.s,.string x.1.t,.string x.1.m,.int .i64 x.1.n,.slice ja x.1.kids.length jc,.string x.2] 106)=wa at *
 generalize w.heap.size=qx at *
 have c:=HQ.out.row.cell (i:=0) (v:=pV b) rfl
 have p0:=HX.out.row.cell (i:=0) (v:=.int .u8 (x.1.op:Int)) rfl
 have p1:=HX.out.row.cell (i:=1) (v:=.int .u8 (x.1.v.k:Int)) rfl
 have p2:=HX.out.row.cell (i:=2) (v:=.int .i64 x.1.v.n) rfl
 have p3:=HX.out.row.cell (i:=3) (v:=.string x.1.v.s) rfl
 have p4:=HX.out.row.cell (i:=4) (v:=.string x.1.t) rfl
 have p5:=HX.out.row.cell (i:=5) (v:=.string x.1.m) rfl
 have p6:=HX.out.row.cell (i:=6) (v:=.int .i64 x.1.n) rfl
 have p7:=HX.out.row.cell (i:=7) (v:=.slice ja x.1.kids.length jc) rfl
 have p8:=HX.out.row.cell (i:=8) (v:=.string x.2) rfl
 unfold Zk1 at HLN ⊢
 have hc2:=HE.out l wa _ HW.out HK.out (Nat.le_trans (Zkp _ _) HLN.out)
 unfold PE.val at hc2
 have HC2:=Lh hc2
 clear hc2
 go_wp2_with fail
 refine HC2.out.mono ?_
 rintro e2 w2 ⟨rfl,hs2,hk2⟩
 have HW2:=Lh hs2
 have HK2:=Lh (HK0.out.trans hk2)
 have HQ2:=Lh (HQ.out.keep hk2)
 have HX2:=Lh (HX.out.keep hk2)
 clear hs2 hk2 HC2 c p0 p1 p2 p3 p4 p5 p6 p7 p8
 have c:=HQ2.out.row.cell (i:=0) (v:=pV b) rfl
 have p8:=HX2.out.row.cell (i:=8) (v:=.string x.2) rfl
 have HC3:=Lh (asW w1 b x.2 _ w2 HW2.out HLN.out)
 go_wp2_with fail
 refine HC3.out.mono ?_
 rintro e3 w3 ⟨rfl,hs3,hk3⟩
 have HW3:=Lh hs3
 have HK3:=Lh (HK2.out.trans hk3)
 clear hs3 hk3 HC3 c p8
 go_wp2_with fail
 go_end0
 exact ⟨rfl,HW3.out,HK3.out⟩
theorem Zus (w1:World) (b q:Nat) (x:PE × Bool) (hE:EXW w1 b x.1) (l:List UInt8) (w:World) (kv:Value) (h:WS w1 b l w) (hq:BX b q 61 #[pV b] w) (hk:Zbq w1 kv x.1.kids) (hlen:(Zdq x l).length ≤ 140737488355328) :
 Calls Tryz.prog 104 #[.agg #[.int .u8 (x.1.op:Int),.int .u8 (x.1.v.k:Int),.int .i64 x.1.v.n,.string x.1.v.s,.string x.1.t,.string x.1.m,.int .i64 x.1.n,kv,.bool x.2],pV q] w (Zbg w1 b (Zdq x l) w):=by
 obtain ⟨ja,jc,rfl,_⟩:=hk.shape
 have HE:=Lh hE
 have HK:=Lh hk
 have HLN:=Lh hlen
 have HQ0:=Lh hq
 have HX:=Lh (h.box 114 #[.int .u8 (x.1.op:Int),.int .u8 (x.1.v.k:Int),.int .i64 x.1.v.n,.string x.1.v.s,.string x.1.t,.string x.1.m,.int .i64 x.1.n,.slice ja x.1.kids.length jc,.bool x.2])
 have HW:=Lh (h.alloc (.cells #[.int .u8 (x.1.op:Int),.int .u8 (x.1.v.k:Int),.int .i64 x.1.v.n,.string x.1.v.s,.string x.1.t,.string x.1.m,.int .i64 x.1.n,.slice ja x.1.kids.length jc,.bool x.2] 114))
 have HK0:=Lh (h.keepAlloc (.cells #[.int .u8 (x.1.op:Int),.int .u8 (x.1.v.k:Int),.int .i64 x.1.v.n,.string x.1.v.s,.string x.1.t,.string x.1.m,.int .i64 x.1.n,.slice ja x.1.kids.length jc,.bool x.2] 114))
 have HQ:=Lh (hq.keep (h.keepAlloc (.cells #[.int .u8 (x.1.op:Int),.int .u8 (x.1.v.k:Int),.int .i64 x.1.v.n,.string x.1.v.s,.string x.1.t,.string x.1.m,.int .i64 x.1.n,.slice ja x.1.kids.length jc,.bool x.2] 114)))
 clear h hk hlen hE hq
 go_enter Tryz.func104,Tryz.ntmps104
 go_upto_region 1 with fail
 generalize w.alloc (.cells #[.int .u8 (x.1.op:Int),.int .u8 (x.1.v.k:Int),.int .i64 x.1.v.n,.string x.1.v.s,.string x.1.t,.string x.1.m,.int .i64 x.1.n,.slice ja x.1.kids.length jc,.bool x.2] 114)=wa at *
 generalize w.heap.size=qx at *
 have c:=HQ.out.row.cell (i:=0) (v:=pV b) rfl
 have p0:=HX.out.row.cell (i:=0) (v:=.int .u8 (x.1.op:Int)) rfl
 have p1:=HX.out.row.cell (i:=1) (v:=.int .u8 (x.1.v.k:Int)) rfl
 have p2:=HX.out.row.cell (i:=2) (v:=.int .i64 x.1.v.n) rfl
 have p3:=HX.out.row.cell (i:=3) (v:=.string x.1.v.s) rfl
 have p4:=HX.out.row.cell (i:=4) (v:=.string x.1.t) rfl
 have p5:=HX.out.row.cell (i:=5) (v:=.string x.1.m) rfl
 have p6:=HX.out.row.cell (i:=6) (v:=.int .i64 x.1.n) rfl
 have p7:=HX.out.row.cell (i:=7) (v:=.slice ja x.1.kids.length jc) rfl
 have p8:=HX.out.row.cell (i:=8) (v:=.bool x.2) rfl
 have HLE:Hid ((wrE x.1 l).length ≤ 140737488355328):=Lh (by
  have h1:=HLN.out
  unfold Zdq at h1
  split at h1
  ·exact Nat.le_trans (Zk _ _) h1
  ·exact h1)
 have hc2:=HE.out l wa _ HW.out HK.out (HLE.out)
 unfold PE.val at hc2
 have HC2:=Lh hc2
 clear hc2
 go_wp2_with fail
 refine HC2.out.mono ?_
 rintro e2 w2 ⟨rfl,hs2,hk2⟩
 have HW2:=Lh hs2
 have HK2:=Lh (HK0.out.trans hk2)
 have HQ2:=Lh (HQ.out.keep hk2)
 have HX2:=Lh (HX.out.keep hk2)
 clear hs2 hk2 HC2 c p0 p1 p2 p3 p4 p5 p6 p7 p8
 have c:=HQ2.out.row.cell (i:=0) (v:=pV b) rfl
 have p8:=HX2.out.row.cell (i:=8) (v:=.bool x.2) rfl
 obtain ⟨xe,xb⟩:=x
 cases xb
 ·have HT:Hid (Zdq (xe,false) l=wrE xe l):=Lh rfl
  go_wp2_with fail
  go_end0
  exact ⟨rfl,HW2.out,HK2.out⟩
 have HT:Hid (Zdq (xe,true) l=Ze [W1 Zie] (wrE xe l)):=Lh rfl
 have HP3:=Lh (Zas [Zie] w1 b _ w2 HW2.out (by have:=HLN.out;rw [HT.out] at this;exact this) kY)
 go_wp2_with fail
 refine HP3.out.mono ?_
 rintro e3 w3 ⟨rfl,hs3,hk3⟩
 have HW3:=Lh hs3
 have HK3:=Lh (HK2.out.trans hk3)
 clear hs3 hk3 HP3
 go_wp2_with fail
 go_end0
 exact ⟨rfl,HW3.out,HK3.out⟩
theorem Zqx (x:List PE) (a:List UInt8):a.length ≤ (Zuc x a).length:=by
 unfold Zuc
 exact Nat.le_trans (Nat.le_trans (Zk _ _) (Za8 Zdg _ _ _)) (Zk _ _)
theorem rowOneW (w1:World) (b q:Nat) (x:List PE) (hE:∀ e,e ∈ x→EXW w1 b e) (l:List UInt8) (w:World) (kv:Value) (h:WS w1 b l w) (hq:BX b q 61 #[pV b] w) (hk:Zbq w1 kv x) (hlen:(Zuc x l).length ≤ 140737488355328) (hn:x.length ≤ 140737488351232) :
 Calls Tryz.prog 63 #[kv,pV q] w (Zbg w1 b (Zuc x l) w):=by
 obtain ⟨ja,jc,rfl,_⟩:=hk.shape
 unfold Zuc at hlen ⊢
 have HE:=Lh hE
 have HK:=Lh hk
 have HLN:=Lh hlen
 have HN:=Lh hn
 have HQ:=Lh hq
 have HP:=Lh (Zas [Z9] w1 b l w h (Nat.le_trans (Nat.le_trans (Za8 Zdg _ _ _) (Zk _ _)) hlen) kY)
 have c0:=hq.row.cell (i:=0) (v:=pV b) rfl
 clear h hk hlen hE hq hn
 go_enter Tryz.func63,Tryz.ntmps63
 go_wp2_with fail
 refine HP.out.mono ?_
 rintro e2 w2 ⟨rfl,hs2,hk2⟩
 have HQ2:=Lh (HQ.out.keep hk2)
 have HK2:=Lh hk2
 have HC:=Lh (Zrr w1 b q wrE Zdg x _ w2 _ hs2 HK.out HQ2.out (fun e l w kv he hws _ hl hk=>HE.out e he l w kv hws hk hl) (Nat.le_trans (Zk _ _) HLN.out) HN.out)
 exact ks26
end Go.Proofs.YtmdogmpcmkfjpaaGreatDoor.Dt
