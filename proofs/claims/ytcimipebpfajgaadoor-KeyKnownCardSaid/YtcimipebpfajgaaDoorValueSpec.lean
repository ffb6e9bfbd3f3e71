/-
  Values: what may be, and their order; plain laws, no program in sight.
-/
import Derived.Test.YtcimipebpfajgaaDoorData
namespace Go.Proofs.YtcimipebpfajgaaDoor.Dt

theorem V.ext' {a b : V} (h1 : a.k = b.k) (h2 : a.n = b.n) (h3 : a.s = b.s) : a = b := by
  cases a; cases b; simp_all
instance : DecidableEq V := fun a b => decidable_of_iff (a.k = b.k ∧ a.n = b.n ∧ a.s = b.s) ⟨fun h => V.ext' h.1 h.2.1 h.2.2, fun h => by rw [h]; exact ⟨rfl, rfl, rfl⟩⟩

/-- A value's kind and what it has. -/
def bareV (v : V) : V := if v.k = 1 then ⟨v.k, v.n, ByteArray.empty⟩ else if v.k = 2 ∨ v.k = 3 then ⟨v.k, 0, v.s⟩ else ⟨v.k, 0, ByteArray.empty⟩
/-- Is there too much in it? -/
def badV (v : V) : Prop := 3 < v.k ∨ (v.k ≠ 1 ∧ v.n ≠ 0) ∨ (v.k < 2 ∧ v.s ≠ ByteArray.empty)
instance (v : V) : Decidable (badV v) := by unfold badV; exact inferInstance
def checkV (v : V) : Nat := if badV v then 2 else if 1000 < v.s.size then 3 else 0

theorem bare_bad (v : V) (h : ¬ 3 < v.k) : (v = bareV v) = ¬ badV v := by
  obtain ⟨k, n, s⟩ := v
  simp only at h
  unfold bareV badV
  simp only [eq_iff_iff]
  match k, h with
  | 0, _ => simp
  | 1, _ => simp
  | 2, _ => simp
  | 3, _ => simp
  | k + 4, h => omega

/-- The order of two texts. -/
def cmpL : List UInt8 → List UInt8 → Int
  | [], [] => 0
  | [], _ :: _ => -1
  | _ :: _, [] => 1
  | a :: l, b :: m => if a < b then -1 else if b < a then 1 else cmpL l m
def cmpI (a b : Int) : Int := if a < b then -1 else if b < a then 1 else 0
/-- The order of two values. -/
def cmpV (a b : V) : Int :=
  if a.k ≠ b.k then cmpI a.k b.k
  else if a.k = 1 then cmpI a.n b.n
  else if a.k = 2 ∨ a.k = 3 then cmpL a.s.data.toList b.s.data.toList
  else 0
theorem cmpI_bd (a b : Int) : -1 ≤ cmpI a b ∧ cmpI a b ≤ 1 := by unfold cmpI; by_cases h : a < b <;> by_cases h2 : b < a <;> simp [h, h2]
theorem cmpL_bd : ∀ l m, -1 ≤ cmpL l m ∧ cmpL l m ≤ 1
  | [], [] => by simp [cmpL]
  | [], _ :: _ => by simp [cmpL]
  | _ :: _, [] => by simp [cmpL]
  | a :: l, b :: m => by
    unfold cmpL
    have := cmpL_bd l m
    by_cases h : a < b <;> by_cases h2 : b < a <;> simp [h, h2, this]
theorem cmpV_bd (a b : V) : -1 ≤ cmpV a b ∧ cmpV a b ≤ 1 := by
  unfold cmpV
  split
  · exact cmpI_bd _ _
  · split
    · exact cmpI_bd _ _
    · split
      · exact cmpL_bd _ _
      · omega
end Go.Proofs.YtcimipebpfajgaaDoor.Dt
