/-
  Rows' capacities; values that may be held against each other.
-/
import Derived.Test.YtghfaeapgghhlaaDoorOrd0
import Derived.Test.YtghfaeapgghhlaaDoorValueW
import Derived.Test.YtghfaeapgghhlaaDoorLaterTail
import Derived.Test.YtghfaeapgghhlaaDoorKBase
namespace Go.Proofs.YtghfaeapgghhlaaDoor.Dt
open Go.RowKit Go.Proofs.YtghfaeapgghhlaaDoor.By

theorem VsAt.cap {w : World} {a : Option Addr} {n c : Nat} {l : List V} (h : VsAt w (.slice a n c) l) : l.length ≤ c := by
  obtain ⟨a', c', e, hc, _⟩ := h
  simp only [Value.slice.injEq] at e
  obtain ⟨_, _, rfl⟩ := e
  exact hc
theorem cmpV_ok {a b : V} (ha : a.ok) (hb : b.ok) : a.k < 256 ∧ b.k < 256 ∧ a.s.size ≤ 9223372036854775807 ∧ b.s.size ≤ 9223372036854775807 := by
  have h1 := ha.2.2
  have h2 := hb.2.2
  exact ⟨ha.1, hb.1, by omega, by omega⟩
end Go.Proofs.YtghfaeapgghhlaaDoor.Dt
