/- PlanKnown: the document's examples of plans hold. No conditions. -/
import Derived.Test.YtjgkeillmelkoaaGreatProg
import Derived.Test.YtjgkeillmelkoaaGreatBk04
import Derived.Test.YtjgkeillmelkoaaGreatBk45
import Derived.Test.YtjgkeillmelkoaaGreatBk47
namespace Go.Proofs.YtjgkeillmelkoaaGreat.PlanKnown
open Go.ChangeShapes Go.WideShapes Go.ChangeAt Go.RowKit Go.Proofs.YtjgkeillmelkoaaGreat.By
set_option linter.unusedVariables false
open Go.Proofs.YtjgkeillmelkoaaGreat.Dt
theorem stB_r (w : World) : StR w [.int .u8 9, .string ⟨#[]⟩, .string ⟨#[]⟩, .bool false, .slice none 0 0, .slice none 0 0, .slice none 0 0, .slice none 0 0, .slice none 0 0, .slice none 0 0, .slice none 0 0, .slice none 0 0, .slice none 0 0, .slice none 0 0, .slice none 0 0, .int .i64 0] stB :=
  ⟨_, _, _, _, _, _, _, _, _, _, _, rfl, slR_zero, slR_zero, slR_zero, slR_zero, slR_zero, slR_zero, slR_zero, slR_zero, slR_zero, slR_zero, slR_zero⟩
set_option maxRecDepth 100000 in
set_option maxHeartbeats 16000000 in
theorem walk (W : World) : Calls Tryz.prog 3 #[] W fun e w' => e = .returned (.bool true) ∧ Below W.heap.size W w' := by
  have H2 := Lib.hid (resolved2 W)
  go_enter Tryz.func3, Tryz.ntmps3
  go_wp2_with fail
  refine H2.out.mono ?_
  rintro e1 w1 ⟨c, rfl, hc, hb1⟩
  have hcc : c = c.toList.toArray := by simp
  have HP := Lib.hid (plan0W w1 c.toList hc.here)
  rw [← hcc] at HP
  have HB1 := Lib.hid hb1
  clear hc hb1 hcc H2
  go_wp2_with fail
  refine HP.out.mono ?_
  rintro e2 w2 ⟨rfl, hb2⟩
  have HB2 := Lib.hid (next HB1.out hb2)
  have HS := Lib.hid (smallL w2)
  clear hb2 HP HB1
  go_wp2_with fail
  refine HS.out.mono ?_
  rintro e3 w3 ⟨v3, rfl, hv3, hb3⟩
  obtain ⟨va, vc, rfl, _⟩ := hv3.here.shape
  have HP9 := Lib.hid (plan9W w3 va vc _ hv3.here (stB_r w3))
  have HB3 := Lib.hid (next HB2.out hb3)
  clear hv3 hb3 HS HB2
  go_wp2_with fail
  refine HP9.out.mono ?_
  rintro e4 w4 ⟨rfl, hb4⟩
  have HB4 := Lib.hid (next HB3.out hb4)
  have H5 := Lib.hid (worksD w4)
  clear hb4 HP9 HB3
  go_wp2_with fail
  refine H5.out.mono ?_
  rintro e5 w5 ⟨rfl, hb5⟩
  have HB5 := Lib.hid (next HB4.out hb5)
  have H6 := Lib.hid (way3D w5)
  clear hb5 H5 HB4
  go_wp2_with fail
  refine H6.out.mono ?_
  rintro e6 w6 ⟨rfl, hb6⟩
  have HB6 := Lib.hid (next HB5.out hb6)
  have H7 := Lib.hid (way4D w6)
  clear hb6 H6 HB5
  go_wp2_with fail
  refine H7.out.mono ?_
  rintro e7 w7 ⟨rfl, hb7⟩
  have HB7 := Lib.hid (next HB6.out hb7)
  have H8 := Lib.hid (way5D w7)
  clear hb7 H7 HB6
  go_wp2_with fail
  refine H8.out.mono ?_
  rintro e8 w8 ⟨rfl, hb8⟩
  have HB8 := Lib.hid (next HB7.out hb8)
  have H9 := Lib.hid (way6D w8 resolved6)
  clear hb8 H8 HB7
  go_wp2_with fail
  refine H9.out.mono ?_
  rintro e9 w9 ⟨rfl, hb9⟩
  have HB9 := Lib.hid (next HB8.out hb9)
  clear hb9 H9 HB8
  go_wp2_with fail
  go_ret
  exact ⟨rfl, HB9.out⟩

theorem own : ownKnob Tryz.prog.godebug = none := by kernel_rfl
theorem laid : laidOutB Tryz.prog = true := by kernel_rfl

theorem opened {H : Type} (enc : TypeId × Value → H) (W : World) (args : Array Value) (ds : List (DataW H)) (p : List MemPlace) :
    Lift.Owes enc Tryz.prog 3 Tryz.f3.params.toList W args ds p := by
  intro hA hval hsz _
  rw [Tryz.params3] at hA hval hsz
  obtain ⟨rfl, rfl, rfl⟩ := trodAll_none hA
  exact walk  W 

set_option maxRecDepth 100000 in
theorem lifted (os : Os) (started : os.Started) (H : Type) (enc : TypeId × Value → H) :
    ReturnsInHanded {} Tryz.checked os 3 .any (Rows.planKnownSpec.pre6 enc Tryz.prog Tryz.f3 Rows.planKnownRow.domain false)
      (Rows.planKnownSpec.post enc Tryz.prog Tryz.f3 false true false false) := by
  refine Lift.lifted (C := Tryz.checked) own started (by kernel_rfl) Tryz.func3
    (ChangeSpec.witness6 (enc := enc) (C := Tryz.checked) false ⟨#[], #[], []⟩ 8 (by kernel_rfl) (by kernel_rfl) (by kernel_rfl) (by kernel_rfl))
    laid (by rw [Tryz.params3]; intro t ht; simp at ht; skip) rfl 4 rfl Tryz.underlying4
    (fun ds hds => by match ds, hds with | [], _ => rfl) (opened enc)

theorem said : Rows.PlanKnownSaid :=
  OpenClaim.holds_of_wide 3 Tryz.f3 rfl rfl rfl rfl rfl rfl rfl ⟨rfl, rfl, rfl, rfl, rfl⟩ rfl rfl rfl rfl rfl (by kernel_rfl) Tryz.func3 (by kernel_rfl)
    (of_decide_eq_true (by kernel_rfl)) (by unfold Func.isWrapper; first | (rw [if_pos (by decide +kernel)]; kernel_rfl) | (rw [if_neg (by decide +kernel)]; exact ⟨rfl, rfl⟩))
    (fun os started H enc _ => lifted os started H enc)
#print axioms said
end Go.Proofs.YtjgkeillmelkoaaGreat.PlanKnown
