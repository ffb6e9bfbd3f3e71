/-
  Plain laws on sums in two words: no program in sight.
-/
import Derived.Test.YthiajonjleambaaNumSpec
namespace Go.Proofs.Ythiajonjleambaa.Sum
open Go Go.Proofs.Ythiajonjleambaa.Num

def pad8 (l : List UInt8) : List UInt8 := l ++ List.replicate (8 - l.length) 0
theorem pad8_length (l : List UInt8) (h : l.length ≤ 8) : (pad8 l).length = 8 := by simp [pad8]; omega
theorem pad8_get (l : List UInt8) (i : Nat) : (pad8 l).getD i 0 = l.getD i 0 := by
  simp only [pad8, List.getD]
  rcases Nat.lt_or_ge i l.length with h | h
  · rw [List.getElem?_append_left h]
  · rw [List.getElem?_append_right h, List.getElem?_eq_none h, List.getElem?_replicate]
    split <;> rfl
theorem val4_congr {l m : List UInt8} (h : ∀ i, i < 4 → l.getD i 0 = m.getD i 0) : val4 l = val4 m := by
  simp only [val4, h 0 (by omega), h 1 (by omega), h 2 (by omega), h 3 (by omega)]
theorem getD_take (l : List UInt8) (n i : Nat) (h : i < n) : (l.take n).getD i 0 = l.getD i 0 := by
  simp [List.getD, h]
theorem getD_drop (l : List UInt8) (n i : Nat) : (l.drop n).getD i 0 = l.getD (n + i) 0 := by
  simp [List.getD]
theorem val4_first (l : List UInt8) : val4 ((pad8 l).take 4) = val4 l :=
  val4_congr fun i h => by rw [getD_take _ _ _ h, pad8_get]
theorem val4_last (l : List UInt8) : val4 (((pad8 l).drop 4).take 4) = val4 (l.drop 4) :=
  val4_congr fun i h => by rw [getD_take _ _ _ h, getD_drop, getD_drop, pad8_get]
theorem val4_take8 (l : List UInt8) : val4 (l.take 8) = val4 l := val4_congr fun i h => getD_take _ _ _ (by omega)
theorem val4_drop8 (l : List UInt8) : val4 ((l.take 8).drop 4) = val4 (l.drop 4) :=
  val4_congr fun i h => by rw [getD_drop, getD_drop, getD_take _ _ _ (by omega)]

def M : Nat := 4294967296
/-- What one block, of two words, makes of a pair. -/
def step (p : Nat × Nat) (x y : Nat) : Nat × Nat :=
  let a := (p.1 + x + p.2) % 4294967296
  (a, (p.2 + y + a) % 4294967296)
/-- .. and back. -/
def unstep (p : Nat × Nat) (x y : Nat) : Nat × Nat :=
  let b := (p.2 + (8589934592 - y - p.1)) % 4294967296
  ((p.1 + (8589934592 - x - b)) % 4294967296, b)

def addF : Nat → Nat × Nat → List UInt8 → Nat × Nat
  | 0, p, _ => p
  | f + 1, p, l => if l = [] then p else addF f (step p (val4 l) (val4 (l.drop 4))) (l.drop 8)
/-- What bytes make of a pair. -/
def addL (p : Nat × Nat) (l : List UInt8) : Nat × Nat := addF l.length p l

theorem addF_enough : ∀ (f g : Nat) (p : Nat × Nat) (l : List UInt8), l.length ≤ f → l.length ≤ g → addF f p l = addF g p l := by
  intro f
  induction f with
  | zero =>
    intro g p l h _
    obtain rfl : l = [] := List.eq_nil_of_length_eq_zero (by omega)
    cases g <;> simp [addF]
  | succ f ih =>
    intro g p l h1 h2
    rcases g with _ | g
    · obtain rfl : l = [] := List.eq_nil_of_length_eq_zero (by omega)
      simp [addF]
    · simp only [addF]
      by_cases hl : l = []
      · rw [if_pos hl, if_pos hl]
      · rw [if_neg hl, if_neg hl]
        have : 0 < l.length := List.length_pos_iff.2 hl
        exact ih g _ _ (by simp; omega) (by simp; omega)
theorem addL_nil (p : Nat × Nat) : addL p [] = p := rfl
theorem addL_cons (p : Nat × Nat) (l : List UInt8) (h : l ≠ []) : addL p l = addL (step p (val4 l) (val4 (l.drop 4))) (l.drop 8) := by
  have : 0 < l.length := List.length_pos_iff.2 h
  unfold addL
  rw [show l.length = (l.length - 1) + 1 by omega, addF, if_neg h]
  exact addF_enough _ _ _ _ (by simp; omega) (by simp)
end Go.Proofs.Ythiajonjleambaa.Sum
