import Derived.Test.YtmdogmpcmkfjpaaGreatDoorBq33
set_option maxRecDepth 100000
set_option maxHeartbeats 64000000
/- Part. -/
namespace Go.Proofs.YtmdogmpcmkfjpaaGreatDoor.Dt
open Go.RowKit Go.Proofs.YtmdogmpcmkfjpaaGreatDoor.By
namespace n9_5
abbrev Zja:=@Zcf
abbrev Zqy:Nat:=11
abbrev Zn4:Nat:=5
abbrev Zo9:Int:=11
end n9_5
open nr564 in
open n9_5 in
theorem Zv4 (w1:World) (b:Nat) (x:PE) (hv:Ze2 x.v) (hx:LX w1) (hkid:∀ y,y ∈ x.kids→EXW w1 b y) (H_hop:Hid (x.op=11)) (H_hn:Hid (x.kids.length=2)):EXW w1 b x:=by exact kf9
namespace n9_6
abbrev Zja:=@BEQ
abbrev Zqy:Nat:=12
abbrev Zn4:Nat:=6
abbrev Zo9:Int:=12
end n9_6
open nr564 in
open n9_6 in
theorem Zv3 (w1:World) (b:Nat) (x:PE) (hv:Ze2 x.v) (hx:LX w1) (hkid:∀ y,y ∈ x.kids→EXW w1 b y) (H_hop:Hid (x.op=12)) (H_hn:Hid (x.kids.length=2)):EXW w1 b x:=by exact kf9
namespace n9_7
abbrev Zja:=@BNE
abbrev Zqy:Nat:=13
abbrev Zn4:Nat:=7
abbrev Zo9:Int:=13
end n9_7
open nr564 in
open n9_7 in
theorem Zv2 (w1:World) (b:Nat) (x:PE) (hv:Ze2 x.v) (hx:LX w1) (hkid:∀ y,y ∈ x.kids→EXW w1 b y) (H_hop:Hid (x.op=13)) (H_hn:Hid (x.kids.length=2)):EXW w1 b x:=by exact kf9
namespace n9_8
abbrev Zja:=@BLT
abbrev Zqy:Nat:=14
abbrev Zn4:Nat:=8
abbrev Zo9:Int:=14
end n9_8
open nr564 in
open n9_8 in
theorem Zv1 (w1:World) (b:Nat) (x:PE) (hv:Ze2 x.v) (hx:LX w1) (hkid:∀ y,y ∈ x.kids→EXW w1 b y) (H_hop:Hid (x.op=14)) (H_hn:Hid (x.kids.length=2)):EXW w1 b x:=by exact kf9
namespace n9_9
abbrev Zja:=@BLE
abbrev Zqy:Nat:=15
abbrev Zn4:Nat:=9
abbrev Zo9:Int:=15
end n9_9
open nr564 in
open n9_9 in
theorem Zv0 (w1:World) (b:Nat) (x:PE) (hv:Ze2 x.v) (hx:LX w1) (hkid:∀ y,y ∈ x.kids→EXW w1 b y) (H_hop:Hid (x.op=15)) (H_hn:Hid (x.kids.length=2)):EXW w1 b x:=by exact kf9
end Go.Proofs.YtmdogmpcmkfjpaaGreatDoor.Dt
