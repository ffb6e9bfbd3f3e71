/-
  What operations on two numbers come to: plain laws, no program in sight.
-/
import Derived.Test.YtclkpbokngamiaaValueSpec
namespace Go.Proofs.Ytclkpbokngamiaa.Dt

abbrev lowI : Int := -9223372036854775808
abbrev highI : Int := 9223372036854775807
def inR (n : Int) : Prop := -9223372036854775808 ≤ n ∧ n ≤ 9223372036854775807
instance (n : Int) : Decidable (inR n) := by unfold inR; exact inferInstance
def numV (n : Int) : V := ⟨1, n, ByteArray.empty⟩
def nullV : V := ⟨0, 0, ByteArray.empty⟩
/-- A number, or that there is none. -/
def overS (n : Int) : V × Nat := if inR n then (numV n, 0) else (nullV, 152)
def reckonS (op : Nat) (a b : Int) : V × Nat :=
  if op = 6 then overS (a + b) else if op = 7 then overS (a - b) else if op = 8 then overS (a * b)
  else if b = 0 then (nullV, 0) else if op = 9 then overS (a.tdiv b) else (numV (a.tmod b), 0)
/-- A value and an error's number, as a call hands them back. -/
abbrev resV (r : V × Nat) : Value := .tuple #[r.1.val, .int .i64 (r.2 : Int)]
def truthV (b : Bool) : V := if b then numV 1 else numV 0

theorem tdiv_neg_one (a : Int) : a.tdiv (-1) = -a := by
  rw [Int.tdiv_neg, Int.tdiv_one]
theorem tmod_neg_one (a : Int) : a.tmod (-1) = 0 := by
  rw [Int.tmod_neg, Int.tmod_one]
theorem tdiv_in (a b : Int) (h : inR a) (hb : b ≠ 0) (hb1 : b ≠ -1) : inR (a.tdiv b) := by
  have h1 : (a.tdiv b).natAbs ≤ a.natAbs := by rw [Int.natAbs_tdiv]; exact Nat.div_le_self _ _
  unfold inR at *
  by_cases h2 : a = -9223372036854775808
  · by_cases hb2 : b = 1
    · subst hb2; rw [Int.tdiv_one]; omega
    · have h3 : 2 ≤ b.natAbs := by omega
      have h4 : (a.tdiv b).natAbs ≤ a.natAbs / 2 := by rw [Int.natAbs_tdiv]; exact Nat.div_le_div_left h3 (by omega)
      omega
  · omega
end Go.Proofs.Ytclkpbokngamiaa.Dt
