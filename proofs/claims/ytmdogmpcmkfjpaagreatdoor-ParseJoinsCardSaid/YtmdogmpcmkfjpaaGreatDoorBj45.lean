import Derived.Deep.DeepCutAuto
import Derived.Test.YtmdogmpcmkfjpaaGreatDoorBj44
import Derived.Test.YtmdogmpcmkfjpaaGreatDoorBj39
import Derived.Test.YtmdogmpcmkfjpaaGreatDoorBj12
/- Part of the proof (merged). -/
namespace Go.Proofs.YtmdogmpcmkfjpaaGreatDoor.Dt
open Go.RowKit Go.Proofs.YtmdogmpcmkfjpaaGreatDoor.By
set_option maxRecDepth 100000 in
set_option maxHeartbeats 64000000 in
theorem exprTwo6 (w1:World) (b:Nat) (x:PE) (hv:VFit x.v) (hx:LX w1) (hkid:∀ y,y ∈ x.kids→EXW w1 b y) (H_hop:Hid (x.op=6)) (H_hn:Hid (x.kids.length=2)):EXW w1 b x:=by
 intro l w kv h hk hlen
 obtain ⟨ka,kc,rfl,hkc⟩:=hk.shape
 have HK:=Lib.hid hk
 have HLN:=Lib.hid hlen
 have HV:=Lib.hid hv
 have HLX:=Lib.hid hx
 have HKID:=Lib.hid hkid
 unfold PE.val
 have hok:=ex_ok x ka x.kids.length kc
 have HX:=Lib.hid (h.box 48 #[.int .u8 (x.op:Int),.int .u8 (x.v.k:Int),.int .i64 x.v.n,.string x.v.s,.string x.t,.string x.m,.int .i64 x.n,.slice ka x.kids.length kc])
 have HW:=Lib.hid (h.alloc (.cells #[.int .u8 (x.op:Int),.int .u8 (x.v.k:Int),.int .i64 x.v.n,.string x.v.s,.string x.t,.string x.m,.int .i64 x.n,.slice ka x.kids.length kc] 48))
 have HK0:=Lib.hid (h.keepAlloc (.cells #[.int .u8 (x.op:Int),.int .u8 (x.v.k:Int),.int .i64 x.v.n,.string x.v.s,.string x.t,.string x.m,.int .i64 x.n,.slice ka x.kids.length kc] 48))
 clear h hk hlen hv hx hkid hkc
 go_enter Tryz.func34,Tryz.ntmps34
 go_upto_region 1 with fail
 clear hok
 generalize w.alloc (.cells #[.int .u8 (x.op:Int),.int .u8 (x.v.k:Int),.int .i64 x.v.n,.string x.v.s,.string x.t,.string x.m,.int .i64 x.n,.slice ka x.kids.length kc] 48)=wa at *
 generalize w.heap.size=q at *
 have HL:=Lib.hid (writerLen w1.heap.size b l wa HW.out.bld)
 go_wp2_with fail
 refine HL.out.mono ?_
 rintro e2 w2 ⟨rfl,rfl⟩
 clear HL
 by_cases hlong:32768 < l.length
 ·have i1:(32768:Int) < (l.length:Int):=by omega
  have HT:Hid (wrE x l=l):=Lib.hid (wr_long hlong)
  clear hlong
  go_wp2_with fail
  go_end0
  exact ⟨rfl,by rw [HT.out];exact HW.out,HK0.out⟩
 have i1:¬ (32768:Int) < (l.length:Int):=by omega
 have HNL:=Lib.hid hlong
 have c0:=HX.out.row.cell (i:=0) (v:=.int .u8 (x.op:Int)) rfl
 have c1:=HX.out.row.cell (i:=1) (v:=.int .u8 (x.v.k:Int)) rfl
 have c2:=HX.out.row.cell (i:=2) (v:=.int .i64 x.v.n) rfl
 have c3:=HX.out.row.cell (i:=3) (v:=.string x.v.s) rfl
 have c4:=HX.out.row.cell (i:=4) (v:=.string x.t) rfl
 have c5:=HX.out.row.cell (i:=5) (v:=.string x.m) rfl
 have c7:=HX.out.row.cell (i:=7) (v:=.slice ka x.kids.length kc) rfl
 clear hlong
 go_upto_region 4 with fail
 have hop:=H_hop.out
 have hn:=H_hn.out
 have o1:((x.op:Int) == 1)=false:=by simp;omega
 have o2:((x.op:Int) == 2)=false:=by simp;omega
 have o3:((x.op:Int) == 3)=false:=by simp;omega
 have o4:((x.op:Int) == 4)=false:=by simp;omega
 have o5:((x.op:Int) == 5)=false:=by simp;omega
 have o20:((x.op:Int) == 20)=false:=by simp;omega
 have g6:  (6:Int) ≤ (x.op:Int):=by omega
 have g20:¬ (20:Int) ≤ (x.op:Int):=by omega
 have l19:  (x.op:Int) ≤ 19:=by omega
 have l23:  (x.op:Int) ≤ 23:=by omega
 have n0:((x.kids.length:Int) == 0)=false:=by simp [hn]
 have n1:((x.kids.length:Int) == 1)=false:=by simp [hn]
 have n2:((x.kids.length:Int) == 2)=true:=by simp [hn]
 obtain ⟨y,z,hkids⟩:=len_two hn
 have HY:Hid (y ∈ x.kids):=Lib.hid (by rw [hkids];simp)
 have HZ:Hid (z ∈ x.kids):=Lib.hid (by rw [hkids];simp)
 have HT:Hid (wrE x l=kidT (wrE z) z.op true (putsL [W1 BPLUS] (kidT (wrE y) y.op true l))):=Lib.hid (by
  have hg:(sgnT[6 - 6]?).getD []=W1 BPLUS:=rfl
  rw [wr_two HNL.out (by omega) hkids,hop,hg])
 rw [HT.out] at HLN
 obtain ⟨kq,ko,kv,rfl,HKV,p0,p1,p2,p3,p4,p5,p6,p7⟩:=kid_at HW.out HK.out (k:=0) (y:=y) (by rw [hkids];rfl)
 simp only [Nat.zero_mul,Nat.add_zero] at p0 p1 p2 p3 p4 p5 p6 p7
 obtain ⟨ja,jc,rfl,_⟩:=HKV.shape
 have HKV:=Lib.hid HKV
 have hc3:=kidW w1 b y (HKID.out y HY.out) true l w2 _ HW.out HKV.out (Nat.le_trans (putsL_len _ _) (Nat.le_trans (kidT_len (wrE_le z) _ _ _) HLN.out))
 unfold PE.val at hc3
 have HC3:=Lib.hid hc3
 clear hc3
 go_wp2_with fail
 refine HC3.out.mono ?_
 rintro e3 w3 ⟨rfl,hs3,hk3⟩
 have HW3:=Lib.hid hs3
 have HX3:=Lib.hid (HX.out.keep hk3)
 have HK3:=Lib.hid (HK0.out.trans hk3)
 clear hs3 hk3 HC3
 clear c0 c1 c2 c3 c4 c5 c7 p0 p1 p2 p3 p4 p5 p6 p7
 generalize kidT (wrE y) y.op true l=l3 at *
 go_upto_region 21 with fail
 go_cut [] (fun wx=>WS w1 b (putsL [W1 BPLUS] l3) wx∧KeepW b w3 wx)
 case first=>
  have hbd:Below w3.heap.size w3 w3.drew:=Below.drew (Below.refl _ _)
  have hba:Below w3.heap.size w3 (w3.drew.alloc (.cells #[.string BPLUS,.string BMINUS,.string BSTAR,.string BDIV,.string BMOD,.string BJOIN,.string BEQ,.string BNE,.string BLT,.string BLE,.string BGT,.string BGE,.string WAND,.string WOR] 9)):=hbd.trans ((Below.refl _ w3.drew).alloc (Nat.le_refl _) _)
  have HA:=Lib.hid (HW3.out.later hba)
  have HXD:=Lib.hid (HX3.out.later hbd HW3.out.lt)
  have HXA:=Lib.hid (HX3.out.later hba HW3.out.lt)
  have HRA:=Lib.hid (row_alloc w3.drew 9 #[.string BPLUS,.string BMINUS,.string BSTAR,.string BDIV,.string BMOD,.string BJOIN,.string BEQ,.string BNE,.string BLT,.string BLE,.string BGT,.string BGE,.string WAND,.string WOR])
  have HKA:Hid (KeepW b w3 (w3.drew.alloc (.cells #[.string BPLUS,.string BMINUS,.string BSTAR,.string BDIV,.string BMOD,.string BJOIN,.string BEQ,.string BNE,.string BLT,.string BLE,.string BGT,.string BGE,.string WAND,.string WOR] 9))):=Lib.hid (KeepW.below hba HW3.out.lt)
  have d0:=HXD.out.row.cell (i:=0) (v:=.int .u8 (x.op:Int)) rfl
  have d1:=HXA.out.row.cell (i:=0) (v:=.int .u8 (x.op:Int)) rfl
  rw [hop] at d0 d1
  have d2:(w3.drew.alloc (.cells #[.string BPLUS,.string BMINUS,.string BSTAR,.string BDIV,.string BMOD,.string BJOIN,.string BEQ,.string BNE,.string BLT,.string BLE,.string BGT,.string BGE,.string WAND,.string WOR] 9)).cell? ⟨w3.heap.size,0,none⟩=some (.string BPLUS):=HRA.out.cell (i:=0) (v:=.string BPLUS) rfl
  have d1b:(w3.alloc (.cells #[.string BPLUS,.string BMINUS,.string BSTAR,.string BDIV,.string BMOD,.string BJOIN,.string BEQ,.string BNE,.string BLT,.string BLE,.string BGT,.string BGE,.string WAND,.string WOR] 9)).drew.cell? ⟨q,0,none⟩=some (.int .u8 6):=d1
  have d2b:(w3.alloc (.cells #[.string BPLUS,.string BMINUS,.string BSTAR,.string BDIV,.string BMOD,.string BJOIN,.string BEQ,.string BNE,.string BLT,.string BLE,.string BGT,.string BGE,.string WAND,.string WOR] 9)).drew.cell? ⟨w3.heap.size,0,none⟩=some (.string BPLUS):=d2
  have d1c:(w3.alloc (.cells #[.string BPLUS,.string BMINUS,.string BSTAR,.string BDIV,.string BMOD,.string BJOIN,.string BEQ,.string BNE,.string BLT,.string BLE,.string BGT,.string BGE,.string WAND,.string WOR] 9)).cell? ⟨q,0,none⟩=some (.int .u8 6):=d1
  have d2c:(w3.alloc (.cells #[.string BPLUS,.string BMINUS,.string BSTAR,.string BDIV,.string BMOD,.string BJOIN,.string BEQ,.string BNE,.string BLT,.string BLE,.string BGT,.string BGE,.string WAND,.string WOR] 9)).cell? ⟨w3.heap.size,0,none⟩=some (.string BPLUS):=d2
  have d0c:w3.cell? ⟨q,0,none⟩=some (.int .u8 6):=d0
  have hp5:=putsN [BPLUS] w1 b l3 _ HA.out (Nat.le_trans (kidT_len (wrE_le z) _ _ _) HLN.out) (by simp)
  have hz5:(w3.drew.alloc (.cells #[.string BPLUS,.string BMINUS,.string BSTAR,.string BDIV,.string BMOD,.string BJOIN,.string BEQ,.string BNE,.string BLT,.string BLE,.string BGT,.string BGE,.string WAND,.string WOR] 9)).heap.size=w3.heap.size + 1:=by simp
  rw [hz5] at hp5
  have hp5b:Calls Tryz.prog 60 #[.pointer (some ⟨b,0,none⟩),.slice (some ⟨w3.heap.size + 1,0,none⟩) 1 1] ((w3.alloc (.cells #[.string BPLUS,.string BMINUS,.string BSTAR,.string BDIV,.string BMOD,.string BJOIN,.string BEQ,.string BNE,.string BLT,.string BLE,.string BGT,.string BGE,.string WAND,.string WOR] 9)).alloc (.cells #[.string BPLUS] 9)).drew (WPost w1 b (putsL [W1 BPLUS] l3) (w3.drew.alloc (.cells #[.string BPLUS,.string BMINUS,.string BSTAR,.string BDIV,.string BMOD,.string BJOIN,.string BEQ,.string BNE,.string BLT,.string BLE,.string BGT,.string BGE,.string WAND,.string WOR] 9))):=hp5
  have HP5:=Lib.hid hp5b
  clear hp5 hz5 hbd hba hp5b
  go_region_with (first | (refine (signsW _).mono ?_;rintro e5 w5 ⟨rfl,rfl⟩) | (refine HP5.out.mono ?_;rintro e6 w6 ⟨rfl,hs6,hk6⟩))
  all_goals (go_wp2_with fail;go_meet;exact ⟨hs6,HKA.out.trans hk6⟩)
 case rest=>
  rename World=>w5
  obtain ⟨hs5,hk5⟩:=hcut
  have HW5:=Lib.hid hs5
  have HK5:=Lib.hid (HK3.out.trans hk5)
  have HX5:=Lib.hid (HX3.out.keep hk5)
  clear hs5 hk5
  have c7:=HX5.out.row.cell (i:=7) (v:=.slice (some ⟨kq,ko,none⟩) x.kids.length kc) rfl
  obtain ⟨kq2,ko2,kv,hka,HKV,p0,p1,p2,p3,p4,p5,p6,p7⟩:=kid_at HW5.out HK.out (k:=1) (y:=z) (by rw [hkids];rfl)
  obtain ⟨rfl,rfl⟩:kq=kq2∧ko=ko2:=by cases hka;exact ⟨rfl,rfl⟩
  simp only [Nat.one_mul] at p0 p1 p2 p3 p4 p5 p6 p7
  obtain ⟨ja,jc,rfl,_⟩:=HKV.shape
  have HKV:=Lib.hid HKV
  have hc6:=kidW w1 b z (HKID.out z HZ.out) true (putsL [W1 BPLUS] l3) w5 _ HW5.out HKV.out (HLN.out)
  unfold PE.val at hc6
  have HC6:=Lib.hid hc6
  clear hc6
  go_wp2_with fail
  refine HC6.out.mono ?_
  rintro e6 w6 ⟨rfl,hs6,hk6⟩
  have HW6:=Lib.hid hs6
  have HK6:=Lib.hid (HK5.out.trans hk6)
  clear hs6 hk6 HC6
  clear c7 p0 p1 p2 p3 p4 p5 p6 p7
  go_wp2_with fail
  go_end0
  exact ⟨rfl,by rw [HT.out];exact HW6.out,HK6.out⟩
set_option maxRecDepth 100000 in
set_option maxHeartbeats 64000000 in
theorem exprTwo8 (w1:World) (b:Nat) (x:PE) (hv:VFit x.v) (hx:LX w1) (hkid:∀ y,y ∈ x.kids→EXW w1 b y) (H_hop:Hid (x.op=8)) (H_hn:Hid (x.kids.length=2)):EXW w1 b x:=by
 intro l w kv h hk hlen
 obtain ⟨ka,kc,rfl,hkc⟩:=hk.shape
 have HK:=Lib.hid hk
 have HLN:=Lib.hid hlen
 have HV:=Lib.hid hv
 have HLX:=Lib.hid hx
 have HKID:=Lib.hid hkid
 unfold PE.val
 have hok:=ex_ok x ka x.kids.length kc
 have HX:=Lib.hid (h.box 48 #[.int .u8 (x.op:Int),.int .u8 (x.v.k:Int),.int .i64 x.v.n,.string x.v.s,.string x.t,.string x.m,.int .i64 x.n,.slice ka x.kids.length kc])
 have HW:=Lib.hid (h.alloc (.cells #[.int .u8 (x.op:Int),.int .u8 (x.v.k:Int),.int .i64 x.v.n,.string x.v.s,.string x.t,.string x.m,.int .i64 x.n,.slice ka x.kids.length kc] 48))
 have HK0:=Lib.hid (h.keepAlloc (.cells #[.int .u8 (x.op:Int),.int .u8 (x.v.k:Int),.int .i64 x.v.n,.string x.v.s,.string x.t,.string x.m,.int .i64 x.n,.slice ka x.kids.length kc] 48))
 clear h hk hlen hv hx hkid hkc
 go_enter Tryz.func34,Tryz.ntmps34
 go_upto_region 1 with fail
 clear hok
 generalize w.alloc (.cells #[.int .u8 (x.op:Int),.int .u8 (x.v.k:Int),.int .i64 x.v.n,.string x.v.s,.string x.t,.string x.m,.int .i64 x.n,.slice ka x.kids.length kc] 48)=wa at *
 generalize w.heap.size=q at *
 have HL:=Lib.hid (writerLen w1.heap.size b l wa HW.out.bld)
 go_wp2_with fail
 refine HL.out.mono ?_
 rintro e2 w2 ⟨rfl,rfl⟩
 clear HL
 by_cases hlong:32768 < l.length
 ·have i1:(32768:Int) < (l.length:Int):=by omega
  have HT:Hid (wrE x l=l):=Lib.hid (wr_long hlong)
  clear hlong
  go_wp2_with fail
  go_end0
  exact ⟨rfl,by rw [HT.out];exact HW.out,HK0.out⟩
 have i1:¬ (32768:Int) < (l.length:Int):=by omega
 have HNL:=Lib.hid hlong
 have c0:=HX.out.row.cell (i:=0) (v:=.int .u8 (x.op:Int)) rfl
 have c1:=HX.out.row.cell (i:=1) (v:=.int .u8 (x.v.k:Int)) rfl
 have c2:=HX.out.row.cell (i:=2) (v:=.int .i64 x.v.n) rfl
 have c3:=HX.out.row.cell (i:=3) (v:=.string x.v.s) rfl
 have c4:=HX.out.row.cell (i:=4) (v:=.string x.t) rfl
 have c5:=HX.out.row.cell (i:=5) (v:=.string x.m) rfl
 have c7:=HX.out.row.cell (i:=7) (v:=.slice ka x.kids.length kc) rfl
 clear hlong
 go_upto_region 4 with fail
 have hop:=H_hop.out
 have hn:=H_hn.out
 have o1:((x.op:Int) == 1)=false:=by simp;omega
 have o2:((x.op:Int) == 2)=false:=by simp;omega
 have o3:((x.op:Int) == 3)=false:=by simp;omega
 have o4:((x.op:Int) == 4)=false:=by simp;omega
 have o5:((x.op:Int) == 5)=false:=by simp;omega
 have o20:((x.op:Int) == 20)=false:=by simp;omega
 have g6:  (6:Int) ≤ (x.op:Int):=by omega
 have g20:¬ (20:Int) ≤ (x.op:Int):=by omega
 have l19:  (x.op:Int) ≤ 19:=by omega
 have l23:  (x.op:Int) ≤ 23:=by omega
 have n0:((x.kids.length:Int) == 0)=false:=by simp [hn]
 have n1:((x.kids.length:Int) == 1)=false:=by simp [hn]
 have n2:((x.kids.length:Int) == 2)=true:=by simp [hn]
 obtain ⟨y,z,hkids⟩:=len_two hn
 have HY:Hid (y ∈ x.kids):=Lib.hid (by rw [hkids];simp)
 have HZ:Hid (z ∈ x.kids):=Lib.hid (by rw [hkids];simp)
 have HT:Hid (wrE x l=kidT (wrE z) z.op true (putsL [W1 BSTAR] (kidT (wrE y) y.op true l))):=Lib.hid (by
  have hg:(sgnT[8 - 6]?).getD []=W1 BSTAR:=rfl
  rw [wr_two HNL.out (by omega) hkids,hop,hg])
 rw [HT.out] at HLN
 obtain ⟨kq,ko,kv,rfl,HKV,p0,p1,p2,p3,p4,p5,p6,p7⟩:=kid_at HW.out HK.out (k:=0) (y:=y) (by rw [hkids];rfl)
 simp only [Nat.zero_mul,Nat.add_zero] at p0 p1 p2 p3 p4 p5 p6 p7
 obtain ⟨ja,jc,rfl,_⟩:=HKV.shape
 have HKV:=Lib.hid HKV
 have hc3:=kidW w1 b y (HKID.out y HY.out) true l w2 _ HW.out HKV.out (Nat.le_trans (putsL_len _ _) (Nat.le_trans (kidT_len (wrE_le z) _ _ _) HLN.out))
 unfold PE.val at hc3
 have HC3:=Lib.hid hc3
 clear hc3
 go_wp2_with fail
 refine HC3.out.mono ?_
 rintro e3 w3 ⟨rfl,hs3,hk3⟩
 have HW3:=Lib.hid hs3
 have HX3:=Lib.hid (HX.out.keep hk3)
 have HK3:=Lib.hid (HK0.out.trans hk3)
 clear hs3 hk3 HC3
 clear c0 c1 c2 c3 c4 c5 c7 p0 p1 p2 p3 p4 p5 p6 p7
 generalize kidT (wrE y) y.op true l=l3 at *
 go_upto_region 21 with fail
 go_cut [] (fun wx=>WS w1 b (putsL [W1 BSTAR] l3) wx∧KeepW b w3 wx)
 case first=>
  have hbd:Below w3.heap.size w3 w3.drew:=Below.drew (Below.refl _ _)
  have hba:Below w3.heap.size w3 (w3.drew.alloc (.cells #[.string BPLUS,.string BMINUS,.string BSTAR,.string BDIV,.string BMOD,.string BJOIN,.string BEQ,.string BNE,.string BLT,.string BLE,.string BGT,.string BGE,.string WAND,.string WOR] 9)):=hbd.trans ((Below.refl _ w3.drew).alloc (Nat.le_refl _) _)
  have HA:=Lib.hid (HW3.out.later hba)
  have HXD:=Lib.hid (HX3.out.later hbd HW3.out.lt)
  have HXA:=Lib.hid (HX3.out.later hba HW3.out.lt)
  have HRA:=Lib.hid (row_alloc w3.drew 9 #[.string BPLUS,.string BMINUS,.string BSTAR,.string BDIV,.string BMOD,.string BJOIN,.string BEQ,.string BNE,.string BLT,.string BLE,.string BGT,.string BGE,.string WAND,.string WOR])
  have HKA:Hid (KeepW b w3 (w3.drew.alloc (.cells #[.string BPLUS,.string BMINUS,.string BSTAR,.string BDIV,.string BMOD,.string BJOIN,.string BEQ,.string BNE,.string BLT,.string BLE,.string BGT,.string BGE,.string WAND,.string WOR] 9))):=Lib.hid (KeepW.below hba HW3.out.lt)
  have d0:=HXD.out.row.cell (i:=0) (v:=.int .u8 (x.op:Int)) rfl
  have d1:=HXA.out.row.cell (i:=0) (v:=.int .u8 (x.op:Int)) rfl
  rw [hop] at d0 d1
  have d2:(w3.drew.alloc (.cells #[.string BPLUS,.string BMINUS,.string BSTAR,.string BDIV,.string BMOD,.string BJOIN,.string BEQ,.string BNE,.string BLT,.string BLE,.string BGT,.string BGE,.string WAND,.string WOR] 9)).cell? ⟨w3.heap.size,2,none⟩=some (.string BSTAR):=HRA.out.cell (i:=2) (v:=.string BSTAR) rfl
  have d1b:(w3.alloc (.cells #[.string BPLUS,.string BMINUS,.string BSTAR,.string BDIV,.string BMOD,.string BJOIN,.string BEQ,.string BNE,.string BLT,.string BLE,.string BGT,.string BGE,.string WAND,.string WOR] 9)).drew.cell? ⟨q,0,none⟩=some (.int .u8 8):=d1
  have d2b:(w3.alloc (.cells #[.string BPLUS,.string BMINUS,.string BSTAR,.string BDIV,.string BMOD,.string BJOIN,.string BEQ,.string BNE,.string BLT,.string BLE,.string BGT,.string BGE,.string WAND,.string WOR] 9)).drew.cell? ⟨w3.heap.size,2,none⟩=some (.string BSTAR):=d2
  have d1c:(w3.alloc (.cells #[.string BPLUS,.string BMINUS,.string BSTAR,.string BDIV,.string BMOD,.string BJOIN,.string BEQ,.string BNE,.string BLT,.string BLE,.string BGT,.string BGE,.string WAND,.string WOR] 9)).cell? ⟨q,0,none⟩=some (.int .u8 8):=d1
  have d2c:(w3.alloc (.cells #[.string BPLUS,.string BMINUS,.string BSTAR,.string BDIV,.string BMOD,.string BJOIN,.string BEQ,.string BNE,.string BLT,.string BLE,.string BGT,.string BGE,.string WAND,.string WOR] 9)).cell? ⟨w3.heap.size,2,none⟩=some (.string BSTAR):=d2
  have d0c:w3.cell? ⟨q,0,none⟩=some (.int .u8 8):=d0
  have hp5:=putsN [BSTAR] w1 b l3 _ HA.out (Nat.le_trans (kidT_len (wrE_le z) _ _ _) HLN.out) (by simp)
  have hz5:(w3.drew.alloc (.cells #[.string BPLUS,.string BMINUS,.string BSTAR,.string BDIV,.string BMOD,.string BJOIN,.string BEQ,.string BNE,.string BLT,.string BLE,.string BGT,.string BGE,.string WAND,.string WOR] 9)).heap.size=w3.heap.size + 1:=by simp
  rw [hz5] at hp5
  have hp5b:Calls Tryz.prog 60 #[.pointer (some ⟨b,0,none⟩),.slice (some ⟨w3.heap.size + 1,0,none⟩) 1 1] ((w3.alloc (.cells #[.string BPLUS,.string BMINUS,.string BSTAR,.string BDIV,.string BMOD,.string BJOIN,.string BEQ,.string BNE,.string BLT,.string BLE,.string BGT,.string BGE,.string WAND,.string WOR] 9)).alloc (.cells #[.string BSTAR] 9)).drew (WPost w1 b (putsL [W1 BSTAR] l3) (w3.drew.alloc (.cells #[.string BPLUS,.string BMINUS,.string BSTAR,.string BDIV,.string BMOD,.string BJOIN,.string BEQ,.string BNE,.string BLT,.string BLE,.string BGT,.string BGE,.string WAND,.string WOR] 9))):=hp5
  have HP5:=Lib.hid hp5b
  clear hp5 hz5 hbd hba hp5b
  go_region_with (first | (refine (signsW _).mono ?_;rintro e5 w5 ⟨rfl,rfl⟩) | (refine HP5.out.mono ?_;rintro e6 w6 ⟨rfl,hs6,hk6⟩))
  all_goals (go_wp2_with fail;go_meet;exact ⟨hs6,HKA.out.trans hk6⟩)
 case rest=>
  rename World=>w5
  obtain ⟨hs5,hk5⟩:=hcut
  have HW5:=Lib.hid hs5
  have HK5:=Lib.hid (HK3.out.trans hk5)
  have HX5:=Lib.hid (HX3.out.keep hk5)
  clear hs5 hk5
  have c7:=HX5.out.row.cell (i:=7) (v:=.slice (some ⟨kq,ko,none⟩) x.kids.length kc) rfl
  obtain ⟨kq2,ko2,kv,hka,HKV,p0,p1,p2,p3,p4,p5,p6,p7⟩:=kid_at HW5.out HK.out (k:=1) (y:=z) (by rw [hkids];rfl)
  obtain ⟨rfl,rfl⟩:kq=kq2∧ko=ko2:=by cases hka;exact ⟨rfl,rfl⟩
  simp only [Nat.one_mul] at p0 p1 p2 p3 p4 p5 p6 p7
  obtain ⟨ja,jc,rfl,_⟩:=HKV.shape
  have HKV:=Lib.hid HKV
  have hc6:=kidW w1 b z (HKID.out z HZ.out) true (putsL [W1 BSTAR] l3) w5 _ HW5.out HKV.out (HLN.out)
  unfold PE.val at hc6
  have HC6:=Lib.hid hc6
  clear hc6
  go_wp2_with fail
  refine HC6.out.mono ?_
  rintro e6 w6 ⟨rfl,hs6,hk6⟩
  have HW6:=Lib.hid hs6
  have HK6:=Lib.hid (HK5.out.trans hk6)
  clear hs6 hk6 HC6
  clear c7 p0 p1 p2 p3 p4 p5 p6 p7
  go_wp2_with fail
  go_end0
  exact ⟨rfl,by rw [HT.out];exact HW6.out,HK6.out⟩
set_option maxRecDepth 100000 in
set_option maxHeartbeats 32000000 in
theorem sameExL1 (x y:PE) (ka kb:Option Addr) (kc kd:Nat) (w:World) (hx:ExsR w (.slice ka x.kids.length kc) x.kids) (hy:ExsR w (.slice kb y.kids.length kd) y.kids) (hla:x.kids.length ≤ 140737488351232)
 (H:∀ (i:Nat) (a b:PE),x.kids[i]? = some a→y.kids[i]? = some b→∀ (kx ky:Value) (W:World),ExsR W kx a.kids→ExsR W ky b.kids→Calls Tryz.prog 14 #[a.val kx,b.val ky] W fun e w'=>e = .returned (.bool (eqB a b))∧Below W.heap.size W w') :
 Calls Tryz.prog 14 #[x.val (.slice ka x.kids.length kc),y.val (.slice kb y.kids.length kd)] w fun e w'=>e = .returned (.bool (eqB x y))∧Below w.heap.size w w':=by
 have HH:=Lib.hid H
 have HA:=Lib.hid hx
 have HB:=Lib.hid hy
 have HLA:=Lib.hid hla
 clear H hx hy hla
 unfold PE.val
 have hbA:Below w.heap.size w ((w.alloc (.cells #[.int .u8 (x.op:Int),.int .u8 (x.v.k:Int),.int .i64 x.v.n,.string x.v.s,.string x.t,.string x.m,.int .i64 x.n,.slice ka x.kids.length kc] 48)).alloc (.cells #[.int .u8 (y.op:Int),.int .u8 (y.v.k:Int),.int .i64 y.v.n,.string y.v.s,.string y.t,.string y.m,.int .i64 y.n,.slice kb y.kids.length kd] 48)):=((Below.refl _ _).alloc (Nat.le_refl _) _).alloc (by simp) _
 have HR0:=Lib.hid ((row_alloc w 48 #[.int .u8 (x.op:Int),.int .u8 (x.v.k:Int),.int .i64 x.v.n,.string x.v.s,.string x.t,.string x.m,.int .i64 x.n,.slice ka x.kids.length kc]).later ((Below.refl _ _).alloc (Nat.le_refl _) (.cells #[.int .u8 (y.op:Int),.int .u8 (y.v.k:Int),.int .i64 y.v.n,.string y.v.s,.string y.t,.string y.m,.int .i64 y.n,.slice kb y.kids.length kd] 48)))
 have HR1:=Lib.hid (row_alloc (w.alloc (.cells #[.int .u8 (x.op:Int),.int .u8 (x.v.k:Int),.int .i64 x.v.n,.string x.v.s,.string x.t,.string x.m,.int .i64 x.n,.slice ka x.kids.length kc] 48)) 48 #[.int .u8 (y.op:Int),.int .u8 (y.v.k:Int),.int .i64 y.v.n,.string y.v.s,.string y.t,.string y.m,.int .i64 y.n,.slice kb y.kids.length kd])
 have HS1:Hid ((w.alloc (.cells #[.int .u8 (x.op:Int),.int .u8 (x.v.k:Int),.int .i64 x.v.n,.string x.v.s,.string x.t,.string x.m,.int .i64 x.n,.slice ka x.kids.length kc] 48)).heap.size=w.heap.size + 1):=Lib.hid (by simp)
 rw [HS1.out] at HR1
 go_enter Tryz.func14,Tryz.ntmps14
 go_upto_region 1 with fail
 have HBA:=Lib.hid hbA
 clear hbA HS1
 generalize (w.alloc (.cells #[.int .u8 (x.op:Int),.int .u8 (x.v.k:Int),.int .i64 x.v.n,.string x.v.s,.string x.t,.string x.m,.int .i64 x.n,.slice ka x.kids.length kc] 48)).alloc (.cells #[.int .u8 (y.op:Int),.int .u8 (y.v.k:Int),.int .i64 y.v.n,.string y.v.s,.string y.t,.string y.m,.int .i64 y.n,.slice kb y.kids.length kd] 48)=w2 at *
 have l0:=(HR0.out.cell (i:=0) rfl)
 have m0:=(HR1.out.cell (i:=0) rfl)
 have l1:=(HR0.out.cell (i:=1) rfl)
 have m1:=(HR1.out.cell (i:=1) rfl)
 have l2:=(HR0.out.cell (i:=2) rfl)
 have m2:=(HR1.out.cell (i:=2) rfl)
 have l3:=(HR0.out.cell (i:=3) rfl)
 have m3:=(HR1.out.cell (i:=3) rfl)
 have l4:=(HR0.out.cell (i:=4) rfl)
 have m4:=(HR1.out.cell (i:=4) rfl)
 have l5:=(HR0.out.cell (i:=5) rfl)
 have m5:=(HR1.out.cell (i:=5) rfl)
 have l6:=(HR0.out.cell (i:=6) rfl)
 have m6:=(HR1.out.cell (i:=6) rfl)
 have l7:=(HR0.out.cell (i:=7) rfl)
 have m7:=(HR1.out.cell (i:=7) rfl)
 go_wp2_with fail
 all_goals try (have HE:Hid (eqB x y=false):=Lib.hid (eqB_false fun e=>by subst e;first | contradiction | (rename_i hz;simp at hz;done))
                go_ret
                exact ⟨by rw [HE.out];rfl,HBA.out⟩)
 have HLEN:Hid (x.kids.length=y.kids.length):=Lib.hid (by have hq:=(by assumption:((x.kids.length:Int) != (y.kids.length:Int))=false);simp only [bne_eq_false_iff_eq] at hq;exact Int.ofNat_inj.1 hq)
 have HE0:Hid (eqB x y=eqB x.kids y.kids):=Lib.hid (eqB_kids (by assumption) (by assumption) (by assumption) (by assumption) (by assumption) (by assumption) (by assumption))
 clear l0 l1 l2 l3 l4 l5 l6 l7 m0 m1 m2 m3 m4 m5 m6 m7
 go_loopg [52] x.kids.length (fun gk iv wr=>∃ (i:Nat),iv = .int .i64 (i:Int)∧gk=x.kids.length - i∧i ≤ x.kids.length∧Hid (Below w2.heap.size w2 wr)∧Hid (x.kids.take i=y.kids.take i))
 case atStart=>exact ⟨0,rfl,rfl,Nat.zero_le _,Lib.hid (Below.refl _ _),Lib.hid rfl⟩
 case round=>
  obtain ⟨i,rfl,rfl,hi,HBL,HT⟩:=hrel
  by_cases hlt:i < x.kids.length
  ·obtain ⟨xa,hx⟩:∃ z,x.kids[i]? = some z:=⟨x.kids[i],by simp⟩
   obtain ⟨ya,hy⟩:∃ z,y.kids[i]? = some z:=⟨y.kids[i]'(by have:=HLEN.out;omega),by simp⟩
   have hwa:=exsR_below HA.out (HBA.out.trans (HBL.out.mono HBA.out.size))
   have hwb:=exsR_below HB.out (HBA.out.trans (HBL.out.mono HBA.out.size))
   obtain ⟨b1,o1,k1,rfl,hk1,p0,p1,p2,p3,p4,p5,p6,p7⟩:=exs_at hwa hx
   obtain ⟨b2,o2,k2,rfl,hk2,q0,q1,q2,q3,q4,q5,q6,q7⟩:=exs_at hwb hy
   obtain ⟨na,nc,rfl,_⟩:=hk1.shape
   obtain ⟨ja,jc,rfl,_⟩:=hk2.shape
   have n7:=(HR1.out.later HBL.out).cell (i:=7) (v:=.slice (some ⟨b2,o2,none⟩) y.kids.length kd) rfl
   have hbx:Below wr.heap.size wr (wr.alloc (.cells #[.int .u8 (xa.op:Int),.int .u8 (xa.v.k:Int),.int .i64 xa.v.n,.string xa.v.s,.string xa.t,.string xa.m,.int .i64 xa.n,.slice na xa.kids.length nc] 48)):=(Below.refl _ _).alloc (Nat.le_refl _) _
   have HRX:=Lib.hid (row_alloc wr 48 #[.int .u8 (xa.op:Int),.int .u8 (xa.v.k:Int),.int .i64 xa.v.n,.string xa.v.s,.string xa.t,.string xa.m,.int .i64 xa.n,.slice na xa.kids.length nc])
   have HC:Hid (∀ W,Below wr.heap.size wr W→Calls Tryz.prog 14 #[xa.val (.slice na xa.kids.length nc),ya.val (.slice ja ya.kids.length jc)] W fun e w'=>e = .returned (.bool (eqB xa ya))∧Below W.heap.size W w'):=Lib.hid (fun W hW=>HH.out i xa ya hx hy _ _ W (exsR_below hk1 hW) (exsR_below hk2 hW))
   have HX:=Lib.hid hx
   have HY:=Lib.hid hy
   have HBX:=Lib.hid hbx
   have ilt:(i:Int) < (x.kids.length:Int):=by omega
   have ilt2:(i:Int) < (y.kids.length:Int):=by have:=HLEN.out;omega
   have ige:(0:Int) ≤ (i:Int):=by omega
   have HLT:=Lib.hid hlt
   unfold PE.val at HC
   clear hx hy hwa hwb hk1 hk2 hlt hbx
   go_upto_region 6 with fail
   clear p0 p1 p2 p3 p4 p5 p6 p7
   have l0:=lat_cell (HRX.out.cell (i:=0) (v:=.int .u8 (xa.op:Int)) rfl)
   have l1:=lat_cell (HRX.out.cell (i:=1) (v:=.int .u8 (xa.v.k:Int)) rfl)
   have l2:=lat_cell (HRX.out.cell (i:=2) (v:=.int .i64 xa.v.n) rfl)
   have l3:=lat_cell (HRX.out.cell (i:=3) (v:=.string xa.v.s) rfl)
   have l4:=lat_cell (HRX.out.cell (i:=4) (v:=.string xa.t) rfl)
   have l5:=lat_cell (HRX.out.cell (i:=5) (v:=.string xa.m) rfl)
   have l6:=lat_cell (HRX.out.cell (i:=6) (v:=.int .i64 xa.n) rfl)
   have l7:=lat_cell (HRX.out.cell (i:=7) (v:=.slice na xa.kids.length nc) rfl)
   have m0:=lat_cell ((HBX.out.cell (cell_lt q0)).trans q0)
   have m1:=lat_cell ((HBX.out.cell (cell_lt q1)).trans q1)
   have m2:=lat_cell ((HBX.out.cell (cell_lt q2)).trans q2)
   have m3:=lat_cell ((HBX.out.cell (cell_lt q3)).trans q3)
   have m4:=lat_cell ((HBX.out.cell (cell_lt q4)).trans q4)
   have m5:=lat_cell ((HBX.out.cell (cell_lt q5)).trans q5)
   have m6:=lat_cell ((HBX.out.cell (cell_lt q6)).trans q6)
   have m7:=lat_cell ((HBX.out.cell (cell_lt q7)).trans q7)
   have mm:=lat_cell ((HBX.out.cell (cell_lt n7)).trans n7)
   clear q0 q1 q2 q3 q4 q5 q6 q7 n7
   generalize wr.alloc (.cells #[.int .u8 (xa.op:Int),.int .u8 (xa.v.k:Int),.int .i64 xa.v.n,.string xa.v.s,.string xa.t,.string xa.m,.int .i64 xa.n,.slice na xa.kids.length nc] 48)=wx at *
   refine wp_region_later (by kernel_rfl) (by kernel_rfl) ?_
   repeat (go_big_quiet_step (exact lat_calls (HC.out _ (HBX.out.trans ((lat_below _ _).mono HBX.out.size)))))
   refine wpQuiet_nil ?_
   refine later_out (fun w3 hb3=>?_)
   have HB3:=Lib.hid (next HBL.out (next HBX.out hb3))
   clear l0 l1 l2 l3 l4 l5 l6 l7 m0 m1 m2 m3 m4 m5 m6 m7 mm hb3
   by_cases hxy:xa=ya
   ·have e2:eqB xa ya=true:=eqB_true.2 hxy
    have HT2:Hid (x.kids.take (i + 1)=y.kids.take (i + 1)):=Lib.hid (by
     rw [List.take_add_one,List.take_add_one,HT.out,HX.out,HY.out,hxy])
    rw [e2]
    have hla2:=HLA.out
    clear e2 hxy
    go_wp2_with fail
    go_roundg (x.kids.length - (i + 1))
    case measure=>exact Nat.sub_lt_sub_left HLT.out (Nat.lt_succ_self _)
    case rel=>exact ⟨i + 1,by have h1:=HLA.out;have h2:=HLT.out;go_num,rfl,HLT.out,HB3,HT2⟩
   ·have e2:eqB xa ya=false:=eqB_false hxy
    have HE:Hid (eqB x y=false):=Lib.hid (eqB_false fun e=>hxy (by have h1:=HX.out;have h2:=HY.out;rw [e,h2] at h1;cases h1;rfl))
    rw [e2]
    clear e2 hxy
    go_wp2_with fail
    go_ret
    exact ⟨by rw [HE.out];rfl,HBA.out.trans (HB3.out.mono HBA.out.size)⟩
  ·obtain rfl:i=x.kids.length:=by omega
   have HE:Hid (eqB x y=true):=Lib.hid (by rw [HE0.out];exact eqB_true.2 (by have h1:=HT.out;have h2:=HLEN.out;rw [List.take_length,h2,List.take_length] at h1;exact h1))
   clear hlt hi
   go_wp2_with fail
   go_ret
   exact ⟨by rw [HE.out];rfl,HBA.out.trans (HBL.out.mono HBA.out.size)⟩
theorem sameExL {x:PE} (h:Short x):∀ (y:PE) (kx ky:Value) (W:World),ExsR W kx x.kids→ExsR W ky y.kids →
 Calls Tryz.prog 14 #[x.val kx,y.val ky] W fun e w'=>e = .returned (.bool (eqB x y))∧Below W.heap.size W w':=by
 induction h with
 | mk x hl _ ih=>
  intro y kx ky W hx hy
  obtain ⟨ka,kc,rfl,_⟩:=hx.shape
  obtain ⟨kb,kd,rfl,_⟩:=hy.shape
  exact sameExL1 x y ka kb kc kd W hx hy hl fun _ a b ha _ kx ky W3 h1 h2=>ih a (List.mem_of_getElem? ha) b kx ky W3 h1 h2
theorem exs_one (W:World) (x:PE) (kv:Value) (T:TypeId) (h:ExsR W kv x.kids):ExsR (W.alloc (.cells (x.cells kv).toArray T)) (.slice (some ⟨W.heap.size,0,none⟩) 1 1) [x]:=by
 have hr:=row_alloc W T (x.cells kv).toArray
 have hb:Below W.heap.size W (W.alloc (.cells (x.cells kv).toArray T)):=(Below.refl _ _).alloc (Nat.le_refl _) _
 refine ⟨[x.cells kv],⟨_,1,rfl,Nat.le_refl _,fun i c hc=>⟨_,0,rfl,fun j u hu=>?_⟩⟩,rfl,fun i c y hc hy=>?_⟩
 ·rcases i with _ | i
  ·simp at hc
   subst hc
   have e:(0:Nat) + 0 * 8 + j=j:=by omega
   rw [e]
   exact hr.cell (by simpa using hu)
  ·simp at hc
 ·rcases i with _ | i
  ·simp at hc hy
   subst hc hy
   exact ⟨rfl,exR_iff.2 ⟨kv,rfl,exsR_below h hb⟩⟩
  ·simp at hc
theorem exs_two (W:World) (x y:PE) (kx ky:Value) (T:TypeId) (h:ExsR W kx x.kids) (g:ExsR W ky y.kids):ExsR (W.alloc (.cells (x.cells kx ++ y.cells ky).toArray T)) (.slice (some ⟨W.heap.size,0,none⟩) 2 2) [x,y]:=by
 have hr:=row_alloc W T (x.cells kx ++ y.cells ky).toArray
 have hb:Below W.heap.size W (W.alloc (.cells (x.cells kx ++ y.cells ky).toArray T)):=(Below.refl _ _).alloc (Nat.le_refl _) _
 have l8:∀ (z:PE) (v:Value),(z.cells v).length=8:=fun _ _=>rfl
 refine ⟨[x.cells kx,y.cells ky],⟨_,2,rfl,Nat.le_refl _,fun i c hc=>⟨_,0,rfl,fun j u hu=>?_⟩⟩,rfl,fun i c z hc hz=>?_⟩
 ·rcases i with _ | i
  ·simp at hc
   subst hc
   have e:(0:Nat) + 0 * 8 + j=j:=by omega
   have hj:j < 8:=by have:=(List.getElem?_eq_some_iff.1 hu).1;rwa [l8] at this
   rw [e]
   exact hr.cell (by simp [List.getElem?_append_left (show j < (x.cells kx).length by rw [l8];exact hj),hu])
  ·rcases i with _ | i
   ·simp at hc
    subst hc
    have e:(0:Nat) + (0 + 1) * 8 + j=8 + j:=by omega
    rw [e]
    exact hr.cell (by simp [List.getElem?_append_right (show (x.cells kx).length ≤ 8 + j by rw [l8];omega),l8,hu])
   ·simp at hc
 ·rcases i with _ | i
  ·simp at hc hz
   subst hc hz
   exact ⟨rfl,exR_iff.2 ⟨kx,rfl,exsR_below h hb⟩⟩
  ·rcases i with _ | i
   ·simp at hc hz
    subst hc hz
    exact ⟨rfl,exR_iff.2 ⟨ky,rfl,exsR_below g hb⟩⟩
   ·simp at hc
set_option maxRecDepth 100000 in
set_option maxHeartbeats 4000000 in
theorem numberL (n:Int) (w:World):Calls Tryz.prog 17 #[.int .i64 n] w fun e w'=>e = .returned (.agg #[.int .u8 1,.int .u8 1,.int .i64 n,.string ⟨#[]⟩,.string ⟨#[]⟩,.string ⟨#[]⟩,.int .i64 0,.slice none 0 0])∧Below w.heap.size w w':=by
 have hb:Below w.heap.size w (w.alloc (.cells #[.int .u8 1,.int .u8 1,.int .i64 n,.string ⟨#[]⟩,.string ⟨#[]⟩,.string ⟨#[]⟩,.int .i64 0,.slice none 0 0] 48)):=(Below.refl _ _).alloc (Nat.le_refl _) _
 have HB:=Lib.hid hb
 clear hb
 go_enter Tryz.func17,Tryz.ntmps17
 go_wp2_with fail
 exact bodyPost_ret (v:=.agg #[.int .u8 1,.int .u8 1,.int .i64 n,.string ⟨#[]⟩,.string ⟨#[]⟩,.string ⟨#[]⟩,.int .i64 0,.slice none 0 0]) (by simp [results,Tryz.results17,go_sem]) rfl ⟨rfl,HB.out⟩
set_option maxRecDepth 100000 in
set_option maxHeartbeats 4000000 in
theorem ofL (op:Nat) (a:Option Addr) (c:Nat) (ks:List PE) (w:World) (h:ExsR w (.slice a ks.length c) ks):Calls Tryz.prog 16 #[.int .u8 (op:Int),.slice a ks.length c] w fun e w'=>
 (∃ v,e = .returned v∧ExV w' v (.node op ks))∧Below w.heap.size w w':=by
 have hb:Below w.heap.size w (w.alloc (.cells #[.int .u8 (op:Int),.int .u8 0,.int .i64 0,.string ⟨#[]⟩,.string ⟨#[]⟩,.string ⟨#[]⟩,.int .i64 0,.slice a ks.length c] 48)):=(Below.refl _ _).alloc (Nat.le_refl _) _
 have HB:=Lib.hid hb
 have HK:=Lib.hid (exsR_below h hb)
 clear hb h
 go_enter Tryz.func16,Tryz.ntmps16
 go_wp2_with fail
 exact bodyPost_ret (v:=.agg #[.int .u8 (op:Int),.int .u8 0,.int .i64 0,.string ⟨#[]⟩,.string ⟨#[]⟩,.string ⟨#[]⟩,.int .i64 0,.slice a ks.length c]) (by simp [results,Tryz.results16,go_sem]) rfl ⟨⟨_,rfl,exV_of (x:=.node op ks) HK.out⟩,HB.out⟩
end Go.Proofs.YtmdogmpcmkfjpaaGreatDoor.Dt
namespace Go.Proofs.YtmdogmpcmkfjpaaGreatDoor.By
open Go.RowKit
theorem wp_region_kip' {P:Program} {id:Nat} {Q:Exit→Act→World→Prop} {a0:Act} {w:World} {l:List Oper} (kn:Nat→Value→World→Prop) (N:Nat) (hN:a0.tmps.size=N) (hm:P.follows .mixedOrders=true) (hB:mixB .any l.toArray=true)
 (hlater:∀ j v w1 w2,kn j v w1→Below w1.heap.size w1 w2→kn j v w2)
 (hops:∀ i,i < l.length→∀ (A:Act) w1,(∀ t,((List.range l.length).all fun j=>dstOf l.toArray j != some t)=true→A.eval (.tmp t)=a0.eval (.tmp t))→Below w.heap.size w w1 →
  (∀ oi,l.toArray[i]? = some oi→∀ e ∈ oi.after,Region.binds .any e=true→Known l.toArray kn N A w1 e.on)→Kip P l.toArray Q kn i A w1)
 (hend:∀ (F:Act) w1,Below w.heap.size w w1→(∀ j t,j < l.length→dstOf l.toArray j=some t→t < N→kn j (F.eval (.tmp t)) w1)→F.defers=a0.defers→F.tmps.size=N→Q .normal F w1) :
 (Code.region id l.toArray true).wp P Q a0 w:=by
 have hap:apartB l.toArray l.toArray.size=true:=by simp only [mixB,Bool.and_eq_true] at hB;exact hB.1
 rw [List.size_toArray] at hap
 refine wp_region_kip kn N hN hm hB hlater hops fun us w1 hb hh=>hend _ w1 hb (fun j t hj hd ht=>?_) ?_ ?_
 ·rw [eval_at hap us a0 hd (by rw [hN];exact ht) l.length hj (Nat.le_refl _)]
  exact hh j hj
 ·have:∀ k,(putAll l.toArray us k a0).defers=a0.defers:=by
   intro k
   induction k with
   | zero=>rfl
   | succ k ih=>
    rw [putAll]
    cases dstOf l.toArray k with
    | none=>exact ih
    | some d=>exact ih
  exact this _
 ·rw [putAll_size];exact hN
end Go.Proofs.YtmdogmpcmkfjpaaGreatDoor.By
