/-
  Plain laws on the way back over the blocks: no program in sight.
-/
import Derived.Test.YthiajonjleambaaSumSpec
namespace Go.Proofs.Ythiajonjleambaa.Sum
open Go Go.Proofs.Ythiajonjleambaa.Num

theorem unstep_step (p : Nat × Nat) (x y : Nat) (h1 : p.1 < 4294967296) (h2 : p.2 < 4294967296) (hx : x < 4294967296) (hy : y < 4294967296) : unstep (step p x y) x y = p := by
  obtain ⟨a, b⟩ := p
  simp only [step, unstep] at *
  have e : ((b + y + (a + x + b) % 4294967296) % 4294967296 + (8589934592 - y - (a + x + b) % 4294967296)) % 4294967296 = b := by omega
  rw [e]
  exact Prod.ext (by show ((a + x + b) % 4294967296 + (8589934592 - x - b)) % 4294967296 = a; omega) rfl
theorem step_unstep (p : Nat × Nat) (x y : Nat) (h1 : p.1 < 4294967296) (h2 : p.2 < 4294967296) (hx : x < 4294967296) (hy : y < 4294967296) : step (unstep p x y) x y = p := by
  obtain ⟨a, b⟩ := p
  simp only [step, unstep] at *
  obtain ⟨c, hc⟩ : ∃ c, c = (b + (8589934592 - y - a)) % 4294967296 := ⟨_, rfl⟩
  rw [← hc]
  have e : ((a + (8589934592 - x - c)) % 4294967296 + x + c) % 4294967296 = a := by omega
  rw [e]
  exact Prod.ext rfl (by show (c + y + a) % 4294967296 = b; omega)
theorem unstep_lt (p : Nat × Nat) (x y : Nat) : (unstep p x y).1 < 4294967296 ∧ (unstep p x y).2 < 4294967296 := by
  simp only [unstep]; omega

/-- The blocks of bytes, as two words each. -/
def blocksF : Nat → List UInt8 → List (Nat × Nat)
  | 0, _ => []
  | f + 1, l => if l = [] then [] else (val4 l, val4 (l.drop 4)) :: blocksF f (l.drop 8)
def blocksL (l : List UInt8) : List (Nat × Nat) := blocksF l.length l
theorem blocksF_enough : ∀ (f g : Nat) (l : List UInt8), l.length ≤ f → l.length ≤ g → blocksF f l = blocksF g l := by
  intro f
  induction f with
  | zero =>
    intro g l h _
    obtain rfl : l = [] := List.eq_nil_of_length_eq_zero (by omega)
    cases g <;> simp [blocksF]
  | succ f ih =>
    intro g l h1 h2
    rcases g with _ | g
    · obtain rfl : l = [] := List.eq_nil_of_length_eq_zero (by omega)
      simp [blocksF]
    · simp only [blocksF]
      by_cases hl : l = []
      · rw [if_pos hl, if_pos hl]
      · rw [if_neg hl, if_neg hl]
        have : 0 < l.length := List.length_pos_iff.2 hl
        rw [ih g _ (by simp; omega) (by simp; omega)]
theorem blocksL_nil : blocksL [] = [] := rfl
theorem blocksL_cons (l : List UInt8) (h : l ≠ []) : blocksL l = (val4 l, val4 (l.drop 4)) :: blocksL (l.drop 8) := by
  have : 0 < l.length := List.length_pos_iff.2 h
  unfold blocksL
  rw [show l.length = (l.length - 1) + 1 by omega, blocksF, if_neg h]
  rw [blocksF_enough _ _ (l.drop 8) (by simp; omega) (Nat.le_refl _)]

/-- What the blocks, from the last to the first, make of a pair. -/
def backB (p : Nat × Nat) (bs : List (Nat × Nat)) : Nat × Nat := bs.foldr (fun b q => unstep q b.1 b.2) p
def addB (p : Nat × Nat) (bs : List (Nat × Nat)) : Nat × Nat := bs.foldl (fun q b => step q b.1 b.2) p
def backL (p : Nat × Nat) (l : List UInt8) : Nat × Nat := backB p (blocksL l)
theorem addB_blocks : ∀ (f : Nat) (l : List UInt8) (p : Nat × Nat), l.length ≤ f → addL p l = addB p (blocksL l) := by
  intro f
  induction f with
  | zero =>
    intro l p h
    obtain rfl : l = [] := List.eq_nil_of_length_eq_zero (by omega)
    rfl
  | succ f ih =>
    intro l p h
    by_cases hl : l = []
    · subst hl; rfl
    · have : 0 < l.length := List.length_pos_iff.2 hl
      rw [addL_cons p l hl, blocksL_cons l hl, ih _ _ (by simp; omega)]
      rfl
def Small (bs : List (Nat × Nat)) : Prop := ∀ b ∈ bs, b.1 < 4294967296 ∧ b.2 < 4294967296
theorem blocks_small : ∀ (f : Nat) (l : List UInt8), l.length ≤ f → Small (blocksL l) := by
  intro f
  induction f with
  | zero =>
    intro l h
    obtain rfl : l = [] := List.eq_nil_of_length_eq_zero (by omega)
    intro b hb; cases hb
  | succ f ih =>
    intro l h
    by_cases hl : l = []
    · subst hl; intro b hb; cases hb
    · have : 0 < l.length := List.length_pos_iff.2 hl
      rw [blocksL_cons l hl]
      intro b hb
      rcases List.mem_cons.1 hb with rfl | hb
      · exact ⟨val4_lt _, val4_lt _⟩
      · exact ih _ (by simp; omega) b hb
theorem step_small (p : Nat × Nat) (x y : Nat) : (step p x y).1 < 4294967296 ∧ (step p x y).2 < 4294967296 := by
  simp only [step]; omega
theorem back_add : ∀ (bs : List (Nat × Nat)) (p : Nat × Nat), Small bs → p.1 < 4294967296 → p.2 < 4294967296 → backB (addB p bs) bs = p := by
  intro bs
  induction bs with
  | nil => intro p _ _ _; rfl
  | cons b bs ih =>
    intro p hs h1 h2
    have hb := hs b (List.mem_cons_self ..)
    show unstep (backB (addB (step p b.1 b.2) bs) bs) b.1 b.2 = p
    rw [ih _ (fun c hc => hs c (List.mem_cons_of_mem _ hc)) (step_small _ _ _).1 (step_small _ _ _).2, unstep_step p _ _ h1 h2 hb.1 hb.2]
theorem back_small : ∀ (bs : List (Nat × Nat)) (p : Nat × Nat), p.1 < 4294967296 → p.2 < 4294967296 → (backB p bs).1 < 4294967296 ∧ (backB p bs).2 < 4294967296 := by
  intro bs p h1 h2
  cases bs with
  | nil => exact ⟨h1, h2⟩
  | cons b bs => exact unstep_lt _ _ _
theorem add_back : ∀ (bs : List (Nat × Nat)) (p : Nat × Nat), Small bs → p.1 < 4294967296 → p.2 < 4294967296 → addB (backB p bs) bs = p := by
  intro bs
  induction bs with
  | nil => intro p _ _ _; rfl
  | cons b bs ih =>
    intro p hs h1 h2
    have hb := hs b (List.mem_cons_self ..)
    have hq := back_small bs p h1 h2
    show addB (step (unstep (backB p bs) b.1 b.2) b.1 b.2) bs = p
    rw [step_unstep _ _ _ hq.1 hq.2 hb.1 hb.2]
    exact ih p (fun c hc => hs c (List.mem_cons_of_mem _ hc)) h1 h2
theorem backL_addL (p : Nat × Nat) (l : List UInt8) (h1 : p.1 < 4294967296) (h2 : p.2 < 4294967296) : backL (addL p l) l = p := by
  rw [addB_blocks _ l p (Nat.le_refl _)]
  exact back_add _ _ (blocks_small _ l (Nat.le_refl _)) h1 h2
theorem addL_backL (p : Nat × Nat) (l : List UInt8) (h1 : p.1 < 4294967296) (h2 : p.2 < 4294967296) : addL (backL p l) l = p := by
  rw [addB_blocks _ l _ (Nat.le_refl _)]
  exact add_back _ _ (blocks_small _ l (Nat.le_refl _)) h1 h2
end Go.Proofs.Ythiajonjleambaa.Sum
