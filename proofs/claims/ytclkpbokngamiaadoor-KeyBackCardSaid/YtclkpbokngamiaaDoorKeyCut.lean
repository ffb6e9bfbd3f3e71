/-
  A part of a row, and rows one behind the other.
-/
import Derived.Test.YtclkpbokngamiaaDoorKeyRows
namespace Go.Proofs.YtclkpbokngamiaaDoor.Dt
open Go.RowKit Go.Proofs.YtclkpbokngamiaaDoor.By

theorem VsAt.cut {w : World} {a : Option Addr} {n c k : Nat} {l : List V} (h : VsAt w (.slice a n c) l) (hk : k ≤ l.length) : VsAt w (.slice a k c) (l.take k) := by
  obtain ⟨a', c', e, hc, hx⟩ := h
  simp only [Value.slice.injEq] at e
  obtain ⟨rfl, rfl, rfl⟩ := e
  refine ⟨a, c, by rw [List.length_take, Nat.min_eq_left hk], by rw [List.length_take]; omega, fun i x hi => ?_⟩
  have hi' : l[i]? = some x := by
    rw [List.getElem?_take] at hi
    split at hi
    · exact hi
    · cases hi
  exact hx i x hi'
end Go.Proofs.YtclkpbokngamiaaDoor.Dt
