import Derived.Test.YtmdogmpcmkfjpaaGreatDoorBq29
set_option maxRecDepth 100000
set_option maxHeartbeats 64000000
/- Part. -/
namespace Go.Proofs.YtmdogmpcmkfjpaaGreatDoor.Dt
open Go.RowKit Go.Proofs.YtmdogmpcmkfjpaaGreatDoor.By
namespace nr564
theorem qR0 {p:Prop} (h:p:=by
 have hop:=H_hop.out
 have hn:=H_hn.out
 have o1:((x.op:Int) == 1)=false:=kQ
 have o2:((x.op:Int) == 2)=false:=kQ
 have o3:((x.op:Int) == 3)=false:=kQ
 have o4:((x.op:Int) == 4)=false:=kQ
 have o5:((x.op:Int) == 5)=false:=kQ
 have o20:((x.op:Int) == 20)=false:=kQ
 have g6:  (6:Int) ≤ (x.op:Int):=kW
 have g20:¬ (20:Int) ≤ (x.op:Int):=kW
 have l19:  (x.op:Int) ≤ 19:=kW
 have l23:  (x.op:Int) ≤ 23:=kW
 have n0:((x.kids.length:Int) == 0)=false:=by simp [hn]
 have n1:((x.kids.length:Int) == 1)=false:=by simp [hn]
 have n2:((x.kids.length:Int) == 2)=true:=by simp [hn]
 obtain ⟨y,z,hkids⟩:=Zp1 hn
 have HY:Hid (y ∈ x.kids):=Lh kb2
 have HZ:Hid (z ∈ x.kids):=Lh kb2
 have HT:Hid (wrE x l=Zgd (wrE z) z.op true (Ze [W1 Zja] (Zgd (wrE y) y.op true l))):=Lh (by
  have hg:(sgnT[Zqy - 6]?).getD []=W1 Zja:=rfl
  rw [Ztd HNL.out kW hkids,hop,hg])
 rw [HT.out] at HLN
 obtain ⟨kq,ko,kv,rfl,HKV,p0,p1,p2,p3,p4,p5,p6,p7⟩:=Zix HW.out HK.out (k:=0) (y:=y) kb3
 simp only [Nat.zero_mul,Nat.add_zero] at p0 p1 p2 p3 p4 p5 p6 p7
 obtain ⟨ja,jc,rfl,_⟩:=HKV.shape
 have HKV:=Lh HKV
 have hc3:=kidW w1 b y (HKID.out y HY.out) true l w2 _ HW.out HKV.out (Nat.le_trans (Zk _ _) (Nat.le_trans (Zc8 (Zdg z) _ _ _) HLN.out))
 unfold PE.val at hc3
 have HC3:=Lh hc3
 clear hc3
 go_wp2_with fail
 refine HC3.out.mono ?_
 rintro e3 w3 ⟨rfl,hs3,hk3⟩
 have HW3:=Lh hs3
 have HX3:=Lh (HX.out.keep hk3)
 have HK3:=Lh (HK0.out.trans hk3)
 clear hs3 hk3 HC3
 clear c0 c1 c2 c3 c4 c5 c7 p0 p1 p2 p3 p4 p5 p6 p7
 generalize Zgd (wrE y) y.op true l=l3 at *
 go_upto_region 21 with fail
 go_cut [] (fun wx=>WS w1 b (Ze [W1 Zja] l3) wx∧Za6 b w3 wx)
 case first=>
  have hbd:Below w3.heap.size w3 w3.drew:=Below.drew (Below.refl _ _)
  have hba:Below w3.heap.size w3 (w3.drew.alloc (.cells #[.string Zdf,.string Zad,.string Zao,.string Zih,.string Zig,.string Zcf,.string BEQ,.string BNE,.string BLT,.string BLE,.string BGT,.string BGE,.string Zf6,.string WOR] 9)):=hbd.trans ((Below.refl _ w3.drew).alloc (Nat.le_refl _) _)
  have HA:=Lh (HW3.out.later hba)
  have HXD:=Lh (HX3.out.later hbd HW3.out.lt)
  have HXA:=Lh (HX3.out.later hba HW3.out.lt)
  have HRA:=Lh (Zc w3.drew 9 #[.string Zdf,.string Zad,.string Zao,.string Zih,.string Zig,.string Zcf,.string BEQ,.string BNE,.string BLT,.string BLE,.string BGT,.string BGE,.string Zf6,.string WOR])
  have HKA:Hid (Za6 b w3 (w3.drew.alloc (.cells #[.string Zdf,.string Zad,.string Zao,.string Zih,.string Zig,.string Zcf,.string BEQ,.string BNE,.string BLT,.string BLE,.string BGT,.string BGE,.string Zf6,.string WOR] 9))):=Lh (Za6.below hba HW3.out.lt)
  have d0:=HXD.out.row.cell (i:=0) (v:=.int .u8 (x.op:Int)) rfl
  have d1:=HXA.out.row.cell (i:=0) (v:=.int .u8 (x.op:Int)) rfl
  rw [hop] at d0 d1
  have d2:(w3.drew.alloc (.cells #[.string Zdf,.string Zad,.string Zao,.string Zih,.string Zig,.string Zcf,.string BEQ,.string BNE,.string BLT,.string BLE,.string BGT,.string BGE,.string Zf6,.string WOR] 9)).cell? ⟨w3.heap.size,Zn4,none⟩=some (.string Zja):=HRA.out.cell (i:=Zn4) (v:=.string Zja) rfl
  have d1b:(w3.alloc (.cells #[.string Zdf,.string Zad,.string Zao,.string Zih,.string Zig,.string Zcf,.string BEQ,.string BNE,.string BLT,.string BLE,.string BGT,.string BGE,.string Zf6,.string WOR] 9)).drew.cell? ⟨q,0,none⟩=some (.int .u8 Zo9):=d1
  have d2b:(w3.alloc (.cells #[.string Zdf,.string Zad,.string Zao,.string Zih,.string Zig,.string Zcf,.string BEQ,.string BNE,.string BLT,.string BLE,.string BGT,.string BGE,.string Zf6,.string WOR] 9)).drew.cell? ⟨w3.heap.size,Zn4,none⟩=some (.string Zja):=d2
  have d1c:(w3.alloc (.cells #[.string Zdf,.string Zad,.string Zao,.string Zih,.string Zig,.string Zcf,.string BEQ,.string BNE,.string BLT,.string BLE,.string BGT,.string BGE,.string Zf6,.string WOR] 9)).cell? ⟨q,0,none⟩=some (.int .u8 Zo9):=d1
  have d2c:(w3.alloc (.cells #[.string Zdf,.string Zad,.string Zao,.string Zih,.string Zig,.string Zcf,.string BEQ,.string BNE,.string BLT,.string BLE,.string BGT,.string BGE,.string Zf6,.string WOR] 9)).cell? ⟨w3.heap.size,Zn4,none⟩=some (.string Zja):=d2
  have d0c:w3.cell? ⟨q,0,none⟩=some (.int .u8 Zo9):=d0
  unfold Zn4 at d2 d2b d2c
  unfold Zo9 at d1b d1c d0c
  have hp5:=Zas [Zja] w1 b l3 _ HA.out (Nat.le_trans (Zc8 (Zdg z) _ _ _) HLN.out) kY
  have hz5:(w3.drew.alloc (.cells #[.string Zdf,.string Zad,.string Zao,.string Zih,.string Zig,.string Zcf,.string BEQ,.string BNE,.string BLT,.string BLE,.string BGT,.string BGE,.string Zf6,.string WOR] 9)).heap.size=w3.heap.size + 1:=kY
  rw [hz5] at hp5
  have hp5b:Calls Tryz.prog 60 #[pV b,.slice (some ⟨w3.heap.size + 1,0,none⟩) 1 1] ((w3.alloc (.cells #[.string Zdf,.string Zad,.string Zao,.string Zih,.string Zig,.string Zcf,.string BEQ,.string BNE,.string BLT,.string BLE,.string BGT,.string BGE,.string Zf6,.string WOR] 9)).alloc (.cells #[.string Zja] 9)).drew (Zbg w1 b (Ze [W1 Zja] l3) (w3.drew.alloc (.cells #[.string Zdf,.string Zad,.string Zao,.string Zih,.string Zig,.string Zcf,.string BEQ,.string BNE,.string BLT,.string BLE,.string BGT,.string BGE,.string Zf6,.string WOR] 9))):=hp5
  have HP5:=Lh hp5b
  clear hp5 hz5 hbd hba hp5b
  go_region_with (first | (refine (signsW _).mono ?_;rintro e5 w5 ⟨rfl,rfl⟩) | (refine HP5.out.mono ?_;rintro e6 w6 ⟨rfl,hs6,hk6⟩))
  all_goals (go_wp2_with fail;go_meet;exact ⟨hs6,HKA.out.trans hk6⟩)
 rename World=>w5
 obtain ⟨hs5,hk5⟩:=hcut
 have HW5:=Lh hs5
 have HK5:=Lh (HK3.out.trans hk5)
 have HX5:=Lh (HX3.out.keep hk5)
 clear hs5 hk5
 have c7:=HX5.out.row.cell (i:=7) (v:=.slice (some ⟨kq,ko,none⟩) x.kids.length kc) rfl
 obtain ⟨kq2,ko2,kv,hka,HKV,p0,p1,p2,p3,p4,p5,p6,p7⟩:=Zix HW5.out HK.out (k:=1) (y:=z) kb3
 obtain ⟨rfl,rfl⟩:kq=kq2∧ko=ko2:=by cases hka;exact ⟨rfl,rfl⟩
 simp only [Nat.one_mul] at p0 p1 p2 p3 p4 p5 p6 p7
 obtain ⟨ja,jc,rfl,_⟩:=HKV.shape
 have HKV:=Lh HKV
 have hc6:=kidW w1 b z (HKID.out z HZ.out) true (Ze [W1 Zja] l3) w5 _ HW5.out HKV.out (HLN.out)
 unfold PE.val at hc6
 have HC6:=Lh hc6
 clear hc6
 go_wp2_with fail
 refine HC6.out.mono ?_
 rintro e6 w6 ⟨rfl,hs6,hk6⟩
 have HW6:=Lh hs6
 have HK6:=Lh (HK5.out.trans hk6)
 clear hs6 hk6 HC6
 clear c7 p0 p1 p2 p3 p4 p5 p6 p7
 go_wp2_with fail
 go_end0
 exact ⟨rfl,by rw [HT.out];exact HW6.out,HK6.out⟩):p:=h
end nr564
theorem kf9 {p:Prop} (h:p:=by exact kp3):p:=h
namespace n9_0
abbrev Zja:=@Zdf
abbrev Zqy:Nat:=6
abbrev Zn4:Nat:=0
abbrev Zo9:Int:=6
end n9_0
open nr564 in
open n9_0 in
theorem Zrl (w1:World) (b:Nat) (x:PE) (hv:Ze2 x.v) (hx:LX w1) (hkid:∀ y,y ∈ x.kids→EXW w1 b y) (H_hop:Hid (x.op=6)) (H_hn:Hid (x.kids.length=2)):EXW w1 b x:=by exact kf9
namespace n9_1
abbrev Zja:=@Zad
abbrev Zqy:Nat:=7
abbrev Zn4:Nat:=1
abbrev Zo9:Int:=7
end n9_1
open nr564 in
open n9_1 in
theorem exprTwo7 (w1:World) (b:Nat) (x:PE) (hv:Ze2 x.v) (hx:LX w1) (hkid:∀ y,y ∈ x.kids→EXW w1 b y) (H_hop:Hid (x.op=7)) (H_hn:Hid (x.kids.length=2)):EXW w1 b x:=by exact kf9
namespace n9_2
abbrev Zja:=@Zao
abbrev Zqy:Nat:=8
abbrev Zn4:Nat:=2
abbrev Zo9:Int:=8
end n9_2
open nr564 in
open n9_2 in
theorem Zrk (w1:World) (b:Nat) (x:PE) (hv:Ze2 x.v) (hx:LX w1) (hkid:∀ y,y ∈ x.kids→EXW w1 b y) (H_hop:Hid (x.op=8)) (H_hn:Hid (x.kids.length=2)):EXW w1 b x:=by exact kf9
namespace n9_3
abbrev Zja:=@Zih
abbrev Zqy:Nat:=9
abbrev Zn4:Nat:=3
abbrev Zo9:Int:=9
end n9_3
open nr564 in
open n9_3 in
theorem exprTwo9 (w1:World) (b:Nat) (x:PE) (hv:Ze2 x.v) (hx:LX w1) (hkid:∀ y,y ∈ x.kids→EXW w1 b y) (H_hop:Hid (x.op=9)) (H_hn:Hid (x.kids.length=2)):EXW w1 b x:=by exact kf9
namespace n9_4
abbrev Zja:=@Zig
abbrev Zqy:Nat:=10
abbrev Zn4:Nat:=4
abbrev Zo9:Int:=10
end n9_4
open nr564 in
open n9_4 in
theorem Zv5 (w1:World) (b:Nat) (x:PE) (hv:Ze2 x.v) (hx:LX w1) (hkid:∀ y,y ∈ x.kids→EXW w1 b y) (H_hop:Hid (x.op=10)) (H_hn:Hid (x.kids.length=2)):EXW w1 b x:=by exact kf9
end Go.Proofs.YtmdogmpcmkfjpaaGreatDoor.Dt
