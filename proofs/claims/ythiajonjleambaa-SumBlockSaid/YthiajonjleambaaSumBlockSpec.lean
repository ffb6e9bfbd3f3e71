/-
  Texts that differ in one block: plain laws, no program in sight.
-/
import Derived.Test.YthiajonjleambaaSumBackSpec
namespace Go.Proofs.Ythiajonjleambaa.Sum
open Go Go.Proofs.Ythiajonjleambaa.Num

theorem val4_inj {l m : List UInt8} (h : val4 l = val4 m) : ∀ i, i < 4 → l.getD i 0 = m.getD i 0 := by
  simp only [val4] at h
  have b := fun (c : UInt8) => c.toNat_lt
  have h0 := b (l.getD 0 0); have h1 := b (l.getD 1 0); have h2 := b (l.getD 2 0); have h3 := b (l.getD 3 0)
  have k0 := b (m.getD 0 0); have k1 := b (m.getD 1 0); have k2 := b (m.getD 2 0); have k3 := b (m.getD 3 0)
  intro i hi
  apply UInt8.toNat_inj.1
  match i, hi with
  | 0, _ => omega
  | 1, _ => omega
  | 2, _ => omega
  | 3, _ => omega
theorem step_inj (q : Nat × Nat) (x y x' y' : Nat) (hx : x < 4294967296) (hy : y < 4294967296) (hx' : x' < 4294967296) (hy' : y' < 4294967296) (h : step q x y = step q x' y') : x = x' ∧ y = y' := by
  simp only [step, Prod.mk.injEq] at h
  obtain ⟨ha, hb⟩ := h
  rw [ha] at hb
  constructor <;> omega
theorem front_append (n : List UInt8) : ∀ (k : Nat) (m : List UInt8) (p : Nat × Nat), m.length = 8 * k → addL p (m ++ n) = addL (addL p m) n := by
  intro k
  induction k with
  | zero =>
    intro m p h
    obtain rfl : m = [] := List.eq_nil_of_length_eq_zero (by omega)
    rfl
  | succ k ih =>
    intro m p h
    have hm : m ≠ [] := by intro e; rw [e] at h; simp at h
    rw [addL_cons p m hm, addL_cons p (m ++ n) (by simp [hm])]
    have gf : ∀ i, i < m.length → (m ++ n).getD i 0 = m.getD i 0 := fun i h => by simp only [List.getD]; rw [List.getElem?_append_left h]
    have e1 : val4 (m ++ n) = val4 m := val4_congr fun i hi => gf i (by omega)
    have e2 : val4 ((m ++ n).drop 4) = val4 (m.drop 4) := val4_congr fun i hi => by rw [getD_drop, getD_drop, gf _ (by omega)]
    rw [e1, e2, List.drop_append_of_le_length (by omega)]
    exact ih _ _ (by simp; omega)
theorem one_block (q : Nat × Nat) (B C : List UInt8) (h0 : 0 < B.length) (h8 : B.length ≤ 8) (hc : B.length = 8 ∨ C = []) : addL q (B ++ C) = addL (step q (val4 B) (val4 (B.drop 4))) C := by
  rw [addL_cons _ _ (by intro e; rw [List.append_eq_nil_iff] at e; rw [e.1] at h0; simp at h0)]
  rcases hc with h | rfl
  · have gf : ∀ i, i < 8 → (B ++ C).getD i 0 = B.getD i 0 := fun i hi => by simp only [List.getD]; rw [List.getElem?_append_left (by omega)]
    have e1 : val4 (B ++ C) = val4 B := val4_congr fun i hi => gf i (by omega)
    have e2 : val4 ((B ++ C).drop 4) = val4 (B.drop 4) := val4_congr fun i hi => by rw [getD_drop, getD_drop, gf _ (by omega)]
    rw [e1, e2, List.drop_left' h]
  · rw [List.append_nil, show B.drop 8 = [] from List.drop_eq_nil_of_le h8]
/-- Texts that differ in one block alone. -/
theorem block_apart (p : Nat × Nat) (A B B' C : List UInt8) (k : Nat) (hA : A.length = 8 * k) (h0 : 0 < B.length) (h8 : B.length ≤ 8) (hl : B'.length = B.length) (hc : B.length = 8 ∨ C = []) :
    (addL p (A ++ (B' ++ C)) = addL p (A ++ (B ++ C))) = (A ++ (B ++ C) = A ++ (B' ++ C)) := by
  rw [eq_iff_iff]
  constructor
  · intro h
    rw [front_append _ k A p hA, front_append _ k A p hA, one_block _ B' C (by omega) (by omega) (hc.imp_left (fun h => hl.trans h)), one_block _ B C h0 h8 hc] at h
    have h' := congrArg (fun r => backL r C) h
    rw [backL_addL _ _ (step_small _ _ _).1 (step_small _ _ _).2, backL_addL _ _ (step_small _ _ _).1 (step_small _ _ _).2] at h'
    obtain ⟨e1, e2⟩ := step_inj _ _ _ _ _ (val4_lt _) (val4_lt _) (val4_lt _) (val4_lt _) h'
    have i1 := val4_inj e1
    have i2 := val4_inj e2
    have hall : ∀ i, i < 8 → B'.getD i 0 = B.getD i 0 := by
      intro i hi
      rcases Nat.lt_or_ge i 4 with h | h
      · exact i1 i h
      · have := i2 (i - 4) (by omega)
        rw [getD_drop, getD_drop, show 4 + (i - 4) = i by omega] at this
        exact this
    have : B = B' := by
      apply List.ext_getElem hl.symm
      intro i a b
      have := hall i (by omega)
      simpa [List.getD, a, b] using this.symm
    rw [this]
  · intro h; rw [h]
end Go.Proofs.Ythiajonjleambaa.Sum
