/-
  Operations of a drawn region that are not wanted. Over whatever program.
-/
import Derived.Test.YtghfaeapgghhlaaDoorKipT
namespace Go.Proofs.YtghfaeapgghhlaaDoor.By
open Go.RowKit
section
variable {P : Program} {ops : Array Oper} {Q : Exit → Act → World → Prop} {kn : Nat → Value → World → Prop} {i : Nat} {a : Act} {w : World} {o : Oper}
theorem unwanted_some {g t : Nat} {b : Bool} (h : o.guard = some (g, b)) (hd : dstOf ops g = some t) (he : a.eval (.tmp t) = .bool (!b)) : Region.wanted o (yielded ops a.tmps) = false := by
  unfold Region.wanted
  rw [h]
  show (yielded ops a.tmps g == some b) = false
  have h2 : a.tmps[t]? = some (.bool (!b)) := by
    rw [eval_tmp, Array.getD_eq_getD_getElem?] at he
    cases h3 : a.tmps[t]? with
    | none => rw [h3] at he; cases he
    | some v => rw [h3] at he; exact congrArg some he
  unfold yielded
  unfold dstOf at hd
  rw [hd]
  show ((match a.tmps[t]? with | some (.bool b) => some b | _ => none) == some b) = false
  rw [h2]
  cases b <;> simp
theorem kip_skip (ho : ops[i]? = some o) (hw : Region.wanted o (yielded ops a.tmps) = false) (hk : kn i undef w) : Kip P ops Q kn i a w := by
  unfold Kip wpOp
  simp only [ho]
  rw [if_neg (by rw [hw]; decide)]
  exact ⟨undef, by unfold dstOf; rw [ho]; rfl, Below.refl _ _, hk⟩
end
end Go.Proofs.YtghfaeapgghhlaaDoor.By
