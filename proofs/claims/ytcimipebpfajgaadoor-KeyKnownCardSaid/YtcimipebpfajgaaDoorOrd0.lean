/-
  The order of values and of rows: plain laws, no program in sight.
-/
import Derived.Test.YtcimipebpfajgaaDoorValueSpec
namespace Go.Proofs.YtcimipebpfajgaaDoor.Dt

theorem cmpL_self : ∀ l, cmpL l l = 0
  | [] => rfl
  | a :: l => by rw [cmpL, if_neg (by simp), if_neg (by simp), cmpL_self l]
theorem cmpL_cons (a : UInt8) (l m : List UInt8) : cmpL (a :: l) (a :: m) = cmpL l m := by rw [cmpL, if_neg (by simp), if_neg (by simp)]
theorem cmpL_zero : ∀ {l m : List UInt8}, cmpL l m = 0 → l = m
  | [], [], _ => rfl
  | [], _ :: _, h => by simp [cmpL] at h
  | _ :: _, [], h => by simp [cmpL] at h
  | a :: l, b :: m, h => by
    rw [cmpL] at h
    by_cases h1 : a < b
    · rw [if_pos h1] at h; cases h
    · rw [if_neg h1] at h
      by_cases h2 : b < a
      · rw [if_pos h2] at h; cases h
      · rw [if_neg h2] at h
        have : a = b := UInt8.le_antisymm (UInt8.not_lt.1 h2) (UInt8.not_lt.1 h1)
        rw [this, cmpL_zero h]
theorem cmpL_heads {a b : UInt8} (h : a ≠ b) (l m : List UInt8) : cmpL (a :: l) (b :: m) = cmpI a.toNat b.toNat := by
  rw [cmpL]
  unfold cmpI
  have hne : a.toNat ≠ b.toNat := fun e => h (UInt8.toNat_inj.1 e)
  by_cases h1 : a < b
  · have := UInt8.lt_iff_toNat_lt.1 h1
    rw [if_pos h1, if_pos (by omega)]
  · have h3 : ¬ a.toNat < b.toNat := fun e => h1 (UInt8.lt_iff_toNat_lt.2 e)
    have h2 : b < a := UInt8.lt_iff_toNat_lt.2 (by omega)
    rw [if_neg h1, if_pos h2, if_neg (by omega), if_pos (by omega)]
theorem cmpI_zero {a b : Int} (h : cmpI a b = 0) : a = b := by
  unfold cmpI at h
  by_cases h1 : a < b
  · rw [if_pos h1] at h; cases h
  · rw [if_neg h1] at h
    by_cases h2 : b < a
    · rw [if_pos h2] at h; cases h
    · omega
theorem cmpI_self (a : Int) : cmpI a a = 0 := by unfold cmpI; simp
theorem cmpI_succ (a b : Nat) : cmpI ((a + 1 : Nat) : Int) ((b + 1 : Nat) : Int) = cmpI a b := by
  unfold cmpI
  by_cases d1 : a < b
  · rw [if_pos (by omega), if_pos (by omega)]
  · rw [if_neg (by omega : ¬ ((a + 1 : Nat) : Int) < ((b + 1 : Nat) : Int)), if_neg (by omega : ¬ (a : Int) < (b : Int))]
    by_cases d2 : b < a
    · rw [if_pos (by omega), if_pos (by omega)]
    · rw [if_neg (by omega), if_neg (by omega)]
/-- The order of rows. -/
def cmpRow : List V → List V → Int
  | [], [] => 0
  | [], _ :: _ => -1
  | _ :: _, [] => 1
  | a :: l, b :: m => if cmpV a b = 0 then cmpRow l m else cmpV a b
/-- Where two rows are the same so far. -/
theorem cmpRow_step : ∀ {a b : List V} {i : Nat} {v u : V}, (∀ j : Nat, j < i → ∀ x y : V, a[j]? = some x → b[j]? = some y → cmpV x y = 0) → a[i]? = some v → b[i]? = some u → cmpV v u ≠ 0 → cmpRow a b = cmpV v u
  | [], b, i, v, u, _, h1, _, _ => by simp at h1
  | _ :: _, [], i, v, u, _, _, h2, _ => by simp at h2
  | x :: a, y :: b, 0, v, u, _, h1, h2, h => by
    simp at h1 h2
    subst h1; subst h2
    rw [cmpRow, if_neg h]
  | x :: a, y :: b, i + 1, v, u, hj, h1, h2, h => by
    rw [cmpRow, if_pos (hj 0 (by omega) x y rfl rfl)]
    exact cmpRow_step (i := i) (fun j hj' p q hp hq => hj (j + 1) (by omega) p q (by simpa using hp) (by simpa using hq)) (by simpa using h1) (by simpa using h2) h
theorem cmpRow_end : ∀ {a b : List V}, (∀ j : Nat, ∀ x y : V, a[j]? = some x → b[j]? = some y → cmpV x y = 0) → cmpRow a b = cmpI a.length b.length
  | [], [], _ => rfl
  | [], _ :: b, _ => by rw [cmpRow]; unfold cmpI; rw [if_pos (by simp only [List.length_cons, List.length_nil]; omega)]
  | _ :: a, [], _ => by rw [cmpRow]; unfold cmpI; rw [if_neg (by simp only [List.length_cons, List.length_nil]; omega), if_pos (by simp only [List.length_cons, List.length_nil]; omega)]
  | x :: a, y :: b, h => by
    rw [cmpRow, if_pos (h 0 x y rfl rfl), cmpRow_end (fun j p q hp hq => h (j + 1) p q (by simpa using hp) (by simpa using hq))]
    exact (cmpI_succ a.length b.length).symm
theorem kind_of {v : V} (h : checkV v = 0) : (v.k = 0 ∧ v.n = 0 ∧ v.s = ByteArray.empty) ∨ (v.k = 1 ∧ v.s = ByteArray.empty) ∨ ((v.k = 2 ∨ v.k = 3) ∧ v.n = 0 ∧ v.s.size ≤ 1000) := by
  unfold checkV at h
  split at h
  · cases h
  rename_i hb
  split at h
  · cases h
  rename_i hs
  unfold badV at hb
  simp only [not_or, not_and, Nat.not_lt, Decidable.not_not] at hb
  obtain ⟨h1, h2, h3⟩ := hb
  by_cases hk : v.k = 1
  · exact .inr (.inl ⟨hk, h3 (by omega)⟩)
  · have hn := h2 hk
    by_cases h0 : v.k = 0
    · exact .inl ⟨h0, hn, h3 (by omega)⟩
    · exact .inr (.inr ⟨by omega, hn, by omega⟩)
end Go.Proofs.YtcimipebpfajgaaDoor.Dt
