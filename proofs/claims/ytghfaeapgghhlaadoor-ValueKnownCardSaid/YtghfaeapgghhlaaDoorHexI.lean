/-
  A digit to the base 16 as a number; -1 where it is none.
-/
import Derived.Test.YtghfaeapgghhlaaDoorLitSpec
import Derived.Laws.Bits64
namespace Go.Proofs.YtghfaeapgghhlaaDoor.Dt
open Go.RowKit

def hexI (c : UInt8) : Int := match hexV c with | some n => (n : Int) | none => -1
theorem hexI_some {c : UInt8} {n : Nat} (h : hexV c = some n) : hexI c = (n : Int) := by unfold hexI; rw [h]
theorem hexI_none {c : UInt8} (h : hexV c = none) : hexI c = -1 := by unfold hexI; rw [h]
theorem or16 (a b : Nat) (ha : a < 16) (hb : b < 16) : bits BinOp.or IntKind.i64 ((a : Int) * 16) (b : Int) = ((16 * a + b : Nat) : Int) := by
  have h : ∀ x y : Fin 16, bits BinOp.or IntKind.i64 (((x.val : Nat) : Int) * 16) ((y.val : Nat) : Int) = ((16 * x.val + y.val : Nat) : Int) := by decide +kernel
  exact h ⟨a, ha⟩ ⟨b, hb⟩
end Go.Proofs.YtghfaeapgghhlaaDoor.Dt
