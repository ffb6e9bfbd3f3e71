/-
  What is next to a text: plain laws, no program in sight.
-/
import Derived.Test.YtcimipebpfajgaaDoorKeySpec
import Derived.Lib.Bytealg
namespace Go.Proofs.YtcimipebpfajgaaDoor.Dt
open Go.RowKit Go.Proofs.YtcimipebpfajgaaDoor.By

/-- The least text that is above all texts that begin with this one. -/
def nextK : List UInt8 → Option (List UInt8)
  | [] => none
  | a :: l => match nextK l with
    | some n => some (a :: n)
    | none => if a = 255 then none else some [a + 1]
theorem nextK_255 : ∀ l, nextK (l ++ [255]) = nextK l
  | [] => rfl
  | a :: l => by rw [List.cons_append, nextK, nextK, nextK_255 l]
theorem nextK_other {c : UInt8} (h : c ≠ 255) : ∀ l, nextK (l ++ [c]) = some (l ++ [c + 1])
  | [] => by show nextK [c] = _; rw [nextK, nextK]; simp [h]
  | a :: l => by rw [List.cons_append, nextK, nextK_other h l]; rfl
theorem nextK_all : ∀ {l}, nextK l = none → l.count 255 = l.length
  | [], _ => rfl
  | a :: l, h => by
    rw [nextK] at h
    split at h
    · cases h
    · rename_i hn
      split at h
      · rename_i ha
        subst ha
        rw [List.count_cons_self, nextK_all hn, List.length_cons]
      · cases h
theorem less_succ {a : UInt8} (h : a ≠ 255) : a < a + 1 ∧ ∀ b : UInt8, b < a + 1 → b = a ∨ b < a := by
  have h1 : a.toNat ≠ 255 := fun e => h (UInt8.toNat_inj.1 e)
  have h2 := a.toNat_lt
  have e : (a + 1).toNat = a.toNat + 1 := by rw [UInt8.toNat_add]; simp; omega
  refine ⟨UInt8.lt_iff_toNat_lt.2 (by omega), fun b hb => ?_⟩
  have := UInt8.lt_iff_toNat_lt.1 hb
  rw [e] at this
  by_cases hba : b.toNat = a.toNat
  · exact .inl (UInt8.toNat_inj.1 hba)
  · exact .inr (UInt8.lt_iff_toNat_lt.2 (by omega))
theorem less_nil (l : List UInt8) : Op.bytesLess l [] = false := by cases l <;> rfl
theorem less_cons (a b : UInt8) (l m : List UInt8) : Op.bytesLess (a :: l) (b :: m) = (decide (a < b) || (a == b && Op.bytesLess l m)) := by rw [Op.bytesLess]
theorem less_eq (a : UInt8) (l m : List UInt8) : Op.bytesLess (a :: l) (a :: m) = Op.bytesLess l m := by rw [less_cons]; simp
theorem less_lt {a b : UInt8} (h : a < b) (l m : List UInt8) : Op.bytesLess (a :: l) (b :: m) = true := by rw [less_cons]; simp [h]
theorem less_gt {a b : UInt8} (h : b < a) (l m : List UInt8) : Op.bytesLess (a :: l) (b :: m) = false := by
  rw [less_cons]
  have h1 : ¬ a < b := fun e => by have h2 := UInt8.lt_iff_toNat_lt.1 e; have h3 := UInt8.lt_iff_toNat_lt.1 h; omega
  have h4 : a ≠ b := fun e => by subst e; exact UInt8.lt_irrefl _ h
  simp [h1, h4]
theorem tri (a b : UInt8) : a < b ∨ a = b ∨ b < a := by
  by_cases h1 : a.toNat < b.toNat
  · exact .inl (UInt8.lt_iff_toNat_lt.2 h1)
  · by_cases h2 : a.toNat = b.toNat
    · exact .inr (.inl (UInt8.toNat_inj.1 h2))
    · exact .inr (.inr (UInt8.lt_iff_toNat_lt.2 (by omega)))
theorem pre_ne {a b : UInt8} (h : a ≠ b) (l m : List UInt8) : (a :: l).isPrefixOf (b :: m) = false := by simp [List.isPrefixOf, h]
theorem pre_eq (a : UInt8) (l m : List UInt8) : (a :: l).isPrefixOf (a :: m) = l.isPrefixOf m := by simp [List.isPrefixOf]
theorem next_law : ∀ s t : List UInt8, (nextK s = none → s.isPrefixOf t = !Op.bytesLess t s) ∧ (∀ n, nextK s = some n → Op.bytesLess s n = true ∧ s.isPrefixOf t = (!Op.bytesLess t s && Op.bytesLess t n))
  | [], t => ⟨fun _ => by rw [less_nil]; simp [List.isPrefixOf], fun n h => by cases h⟩
  | a :: s, t => by
    rw [nextK]
    cases hn : nextK s with
    | some m =>
      refine ⟨fun h => (by cases h), fun n h => ?_⟩
      cases h
      have hs := (next_law s t).2 m hn
      refine ⟨by rw [less_eq]; exact hs.1, ?_⟩
      match t with
      | [] => rfl
      | b :: t =>
        have ih := ((next_law s t).2 m hn).2
        rcases tri b a with h | rfl | h
        · rw [pre_ne (fun e => by subst e; exact UInt8.lt_irrefl _ h), less_lt h, less_lt h]; rfl
        · rw [pre_eq, less_eq, less_eq, ih]
        · rw [pre_ne (fun e => by subst e; exact UInt8.lt_irrefl _ h), less_gt h, less_gt h]; rfl
    | none =>
      by_cases ha : a = 255
      · subst ha
        refine ⟨fun _ => ?_, fun n h => by simp at h⟩
        match t with
        | [] => rfl
        | b :: t =>
          have ih := (next_law s t).1 hn
          rcases tri b 255 with h | rfl | h
          · rw [pre_ne (fun e => by subst e; exact UInt8.lt_irrefl _ h), less_lt h]; rfl
          · rw [pre_eq, less_eq, ih]
          · have := UInt8.lt_iff_toNat_lt.1 h
            have h2 := b.toNat_lt
            have h3 : (255 : UInt8).toNat = 255 := rfl
            omega
      · have hsu := less_succ ha
        refine ⟨fun h => by simp [ha] at h, fun n h => ?_⟩
        simp [ha] at h
        subst h
        refine ⟨less_lt hsu.1 _ _, ?_⟩
        match t with
        | [] => rfl
        | b :: t =>
          have ih := (next_law s t).1 hn
          rcases tri b a with h | rfl | h
          · rw [pre_ne (fun e => by subst e; exact UInt8.lt_irrefl _ h), less_lt h]; rfl
          · rw [pre_eq, less_eq, less_lt hsu.1, ih, Bool.and_true]
          · rw [pre_ne (fun e => by subst e; exact UInt8.lt_irrefl _ h), less_gt h]
            rcases tri b (a + 1) with h2 | rfl | h2
            · rcases hsu.2 b h2 with rfl | h3
              · exact absurd h (UInt8.lt_irrefl _)
              · have h4 := UInt8.lt_iff_toNat_lt.1 h3
                have h5 := UInt8.lt_iff_toNat_lt.1 h
                omega
            · rw [less_eq, less_nil]; rfl
            · rw [less_gt h2]; rfl
end Go.Proofs.YtcimipebpfajgaaDoor.Dt
