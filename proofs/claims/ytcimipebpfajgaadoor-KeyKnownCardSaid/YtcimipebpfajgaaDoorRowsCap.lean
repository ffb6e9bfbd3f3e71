/-
  Rows' capacities; values that may be held against each other.
-/
import Derived.Test.YtcimipebpfajgaaDoorOrd0
import Derived.Test.YtcimipebpfajgaaDoorKBase
namespace Go.Proofs.YtcimipebpfajgaaDoor.Dt
open Go.RowKit Go.Proofs.YtcimipebpfajgaaDoor.By

theorem VsAt.cap {w : World} {a : Option Addr} {n c : Nat} {l : List V} (h : VsAt w (.slice a n c) l) : l.length ≤ c := by
  obtain ⟨a', c', e, hc, _⟩ := h
  simp only [Value.slice.injEq] at e
  obtain ⟨_, _, rfl⟩ := e
  exact hc
end Go.Proofs.YtcimipebpfajgaaDoor.Dt
