/- SumKnown: the paper's examples of sums hold. No conditions. -/
import Derived.Test.YtooliekmfbkopaaLift
import Derived.Test.YtooliekmfbkopaaSumBackW
import Derived.Test.YtooliekmfbkopaaSumTake
import Derived.Test.YtooliekmfbkopaaSumText
import Derived.Test.YtooliekmfbkopaaSumEq
import Derived.Test.YtooliekmfbkopaaQuiet
import Derived.Test.YtooliekmfbkopaaLater
import Derived.Lib.SmallJoins
namespace Go.Proofs.Ytooliekmfbkopaa.SumKnown
open Go.ChangeShapes Go.WideShapes Go.ChangeAt Go.RowKit Go.Proofs.Ytooliekmfbkopaa.By
set_option linter.unusedVariables false
open Go.Proofs.Ytooliekmfbkopaa.Sum
attribute [local go_sem high] eql_pair
theorem k1 (w : World) : Calls Try.prog 26 #[.string ⟨#[]⟩] w fun e w' => e = .returned (.agg #[.int .u32 0, .int .u32 0]) ∧ Below w.heap.size w w' := of ⟨#[]⟩ w
theorem k2 (w : World) : Calls Try.prog 24 #[.agg #[.int .u32 5, .int .u32 6], .string ⟨#[]⟩] w fun e w' => e = .returned (.agg #[.int .u32 5, .int .u32 6]) ∧ Below w.heap.size w w' := add (5, 6) ⟨#[]⟩ w
theorem k3 (w : World) : Calls Try.prog 26 #[.string ⟨#[0, 0, 0, 1]⟩] w fun e w' => e = .returned (.agg #[.int .u32 1, .int .u32 1]) ∧ Below w.heap.size w w' := by
  have := of ⟨#[0, 0, 0, 1]⟩ w
  rw [show addL (0, 0) (⟨#[0, 0, 0, 1]⟩ : ByteArray).data.toList = (1, 1) by decide] at this
  exact this
theorem k4 (w : World) : Calls Try.prog 24 #[.agg #[.int .u32 1, .int .u32 3], .string ⟨#[0, 0, 0, 1]⟩] w fun e w' => e = .returned (.agg #[.int .u32 5, .int .u32 8]) ∧ Below w.heap.size w w' := by
  have := add (1, 3) ⟨#[0, 0, 0, 1]⟩ w
  rw [show addL (1, 3) (⟨#[0, 0, 0, 1]⟩ : ByteArray).data.toList = (5, 8) by decide] at this
  exact this
theorem k5 (w : World) : Calls Try.prog 31 #[.agg #[.int .u32 1, .int .u32 3], .string ⟨#[0, 0, 0, 1, 0, 0, 0, 2]⟩] w fun e w' => e = .returned (.agg #[.int .u32 0, .int .u32 0]) ∧ Below w.heap.size w w' := by
  have := back (1, 3) ⟨#[0, 0, 0, 1, 0, 0, 0, 2]⟩ w (by decide) (by decide) (by decide)
  rw [show backL (1, 3) (⟨#[0, 0, 0, 1, 0, 0, 0, 2]⟩ : ByteArray).data.toList = (0, 0) by decide] at this
  exact this
theorem k6 (w : World) : Calls Try.prog 28 #[.agg #[.int .u32 1, .int .u32 258]] w fun e w' => e = .returned (.string ⟨#[0, 0, 0, 1, 0, 0, 1, 2]⟩) ∧ Below w.heap.size w w' := by
  have := text (1, 258) w
  exact this
theorem k7 (w : World) : Calls Try.prog 27 #[.string ⟨#[49, 50, 51, 52, 53, 54, 55]⟩] w fun e w' => e = .returned (.tuple #[.agg #[.int .u32 0, .int .u32 0], .int .i64 10]) ∧ Below w.heap.size w w' := take_short _ w (by decide)
set_option maxRecDepth 100000 in
set_option maxHeartbeats 4000000 in
theorem walk (w : World) :
    Calls Try.prog 12 #[] w fun e w' => e = .returned (.bool true) ∧ Below w.heap.size w w' := by
  go_enter Try.func12, Try.ntmps12
  go_wp2_with fail
  refine (k7 _).mono ?_
  rintro e w1 ⟨rfl, hb1⟩
  go_wp2_with fail
  have hbel : Below w.heap.size w (w1.alloc (.cells #[.int .u32 0, .int .u32 0] 28)) := hb1.alloc hb1.size _
  have o0 : (w1.alloc (.cells #[.int .u32 0, .int .u32 0] 28)).cell? ⟨w1.heap.size, 0, none⟩ = some (.int .u32 0) := by go_simp
  have o1 : (w1.alloc (.cells #[.int .u32 0, .int .u32 0] 28)).cell? ⟨w1.heap.size, 1, none⟩ = some (.int .u32 0) := by go_simp
  have hz : w1.heap.size < (w1.alloc (.cells #[.int .u32 0, .int .u32 0] 28)).heap.size := by simp
  generalize w1.alloc (.cells #[.int .u32 0, .int .u32 0] 28) = W at *
  refine (works _).mono ?_
  rintro e x1 ⟨rfl, y1⟩
  go_wp2_with fail
  refine (k1 _).mono ?_
  rintro e x2 ⟨rfl, y2⟩
  go_wp2_with fail
  refine (k2 _).mono ?_
  rintro e x3 ⟨rfl, y3⟩
  go_wp2_with fail
  refine (k3 _).mono ?_
  rintro e x4 ⟨rfl, y4⟩
  go_wp2_with fail
  refine (k4 _).mono ?_
  rintro e x5 ⟨rfl, y5⟩
  go_wp2_with fail
  refine (k5 _).mono ?_
  rintro e x6 ⟨rfl, y6⟩
  go_wp2_with fail
  refine (k6 _).mono ?_
  rintro e x7 ⟨rfl, y7⟩
  have hall := next (next (next (next (next (next y1 y2) y3) y4) y5) y6) y7
  have p0 := (hall.cell (p := ⟨w1.heap.size, 0, none⟩) hz).trans o0
  have p1 := (hall.cell (p := ⟨w1.heap.size, 1, none⟩) hz).trans o1
  go_wp2_with fail
  go_ret
  exact ⟨rfl, next hbel hall⟩

theorem own : ownKnob Try.prog.godebug = none := by kernel_rfl
theorem laid : laidOutB Try.prog = true := by kernel_rfl

theorem opened {H : Type} (enc : TypeId × Value → H) (W : World) (args : Array Value) (ds : List (DataW H)) (p : List MemPlace) :
    Lift.Owes enc Try.prog 12 Try.f12.params.toList W args ds p := by
  intro hA hval hsz _
  rw [Try.params12] at hA hval hsz
  obtain ⟨rfl, rfl, rfl⟩ := trodAll_none hA
  exact walk  W 

set_option maxRecDepth 100000 in
theorem lifted (os : Os) (started : os.Started) (H : Type) (enc : TypeId × Value → H) :
    ReturnsInHanded {} Try.checked os 12 .any (Rows.sumKnownSpec.pre6 enc Try.prog Try.f12 Rows.sumKnownRow.domain false)
      (Rows.sumKnownSpec.post enc Try.prog Try.f12 false true false false) := by
  refine Lift.lifted (C := Try.checked) own started (by kernel_rfl) Try.func12
    (ChangeSpec.witness6 (enc := enc) (C := Try.checked) false ⟨#[], #[], []⟩ 8 (by kernel_rfl) (by kernel_rfl) (by kernel_rfl) (by kernel_rfl))
    laid (by rw [Try.params12]; intro t ht; simp at ht; skip) rfl 4 rfl Try.underlying4
    (fun ds hds => by match ds, hds with | [], _ => rfl) (opened enc)

theorem said : Rows.SumKnownSaid :=
  OpenClaim.holds_of_wide 12 Try.f12 rfl rfl rfl rfl rfl rfl rfl ⟨rfl, rfl, rfl, rfl, rfl⟩ rfl rfl rfl rfl rfl (by kernel_rfl) Try.func12 (by kernel_rfl)
    (of_decide_eq_true (by kernel_rfl)) (by unfold Func.isWrapper; first | (rw [if_pos (by decide +kernel)]; kernel_rfl) | (rw [if_neg (by decide +kernel)]; exact ⟨rfl, rfl⟩))
    (fun os started H enc _ => lifted os started H enc)
#print axioms said
end Go.Proofs.Ytooliekmfbkopaa.SumKnown
