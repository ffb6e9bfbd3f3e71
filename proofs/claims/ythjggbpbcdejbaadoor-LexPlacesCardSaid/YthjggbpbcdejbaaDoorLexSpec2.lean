/-
  Tokens behind one another: where they lie, and how they are written; plain laws, no program in sight.
-/
import Derived.Test.YthjggbpbcdejbaaDoorLexSpec
namespace Go.Proofs.YthjggbpbcdejbaaDoor.Dt
open Go.Lib

abbrev TR := (Nat × Nat) ⊕ List Tk
theorem toksN_succ (f b : Nat) (l : List UInt8) : toksN (f + 1) b l = if l.drop (skipL l) = [] then .inr []
    else match oneL (l.drop (skipL l)) with
      | .bad e m => .inl (e, b + skipL l + m)
      | .tok k s n m =>
        if k ≠ 6 ∧ wordB (topB ((l.drop (skipL l)).drop m)) then .inl (6, b + skipL l + m)
        else match toksN f (b + skipL l + m) ((l.drop (skipL l)).drop m) with
          | .inl e => .inl e
          | .inr t => .inr (⟨k, ⟨s.toArray⟩, n, ((b + skipL l : Nat) : Int)⟩ :: t) := rfl
theorem toksN_more : ∀ (f g b : Nat) (l : List UInt8), l.length < f → l.length < g → toksN f b l = toksN g b l
  | 0, _, _, _, h, _ => absurd h (by omega)
  | _ + 1, 0, _, _, _, h => absurd h (by omega)
  | f + 1, g + 1, b, l, h1, h2 => by
    rw [toksN_succ, toksN_succ]
    by_cases hn : l.drop (skipL l) = []
    · rw [if_pos hn, if_pos hn]
    · rw [if_neg hn, if_neg hn]
      cases ho : oneL (l.drop (skipL l)) with
      | bad e m => rfl
      | tok k s n m =>
        have := one_len hn ho
        have h3 := skip_le _ l (Nat.le_refl _)
        simp only
        rw [toksN_more f g _ _ (by simp only [List.length_drop] at this ⊢; omega) (by simp only [List.length_drop] at this ⊢; omega)]
def tk (b : Nat) (l : List UInt8) : TR := toksN (l.length + 1) b l
/-- What one token makes of those behind it. -/
def stepT (b : Nat) (l : List UInt8) (rest : Nat → List UInt8 → TR) : TR :=
  match oneL l with
  | .bad e m => .inl (e, b + m)
  | .tok k s n m =>
    if k ≠ 6 ∧ wordB (topB (l.drop m)) then .inl (6, b + m)
    else match rest (b + m) (l.drop m) with
      | .inl e => .inl e
      | .inr t => .inr (⟨k, ⟨s.toArray⟩, n, (b : Int)⟩ :: t)
theorem tk_eq (b : Nat) (l : List UInt8) : tk b l = if l.drop (skipL l) = [] then .inr [] else stepT (b + skipL l) (l.drop (skipL l)) tk := by
  unfold tk
  rw [toksN_succ]
  by_cases hn : l.drop (skipL l) = []
  · rw [if_pos hn, if_pos hn]
  · rw [if_neg hn, if_neg hn]
    unfold stepT
    cases ho : oneL (l.drop (skipL l)) with
    | bad e m => rfl
    | tok k s n m =>
      have := one_len hn ho
      have h3 := skip_le _ l (Nat.le_refl _)
      simp only
      rw [toksN_more l.length (((l.drop (skipL l)).drop m).length + 1) _ _ (by simp only [List.length_drop] at this ⊢; omega) (by omega)]
      rfl
theorem tk_skip (b : Nat) (l : List UInt8) : tk b l = tk (b + skipL l) (l.drop (skipL l)) := by
  rw [tk_eq, tk_eq (b + skipL l), skip_idem, Nat.add_zero, List.drop_zero]
theorem tk_nil (b : Nat) : tk b [] = .inr [] := rfl
theorem tk_step {b : Nat} {l : List UInt8} (hl : l ≠ []) (hs : skipL l = 0) : tk b l = stepT b l tk := by
  rw [tk_eq, hs, Nat.add_zero, List.drop_zero, if_neg hl]
theorem toksL_eq (l : List UInt8) : toksL l = if 4096 < l.length then .inl (3, 4096) else tk 0 l := rfl

/-- All places, so much further on. -/
def shT (j : Nat) : TR → TR
  | .inl e => .inl (e.1, e.2 + j)
  | .inr t => .inr (t.map fun x => { x with a := x.a + (j : Int) })
theorem tk_shift (j : Nat) : ∀ (f : Nat) (b : Nat) (l : List UInt8), l.length ≤ f → tk (b + j) l = shT j (tk b l)
  | f, b, l, hf => by
    rw [tk_eq, tk_eq b]
    by_cases hn : l.drop (skipL l) = []
    · rw [if_pos hn, if_pos hn]; rfl
    · rw [if_neg hn, if_neg hn]
      unfold stepT
      cases ho : oneL (l.drop (skipL l)) with
      | bad e m => simp only [shT]; congr 2; omega
      | tok k s n m =>
        have := one_len hn ho
        have h3 := skip_le _ l (Nat.le_refl _)
        simp only
        by_cases hk : k ≠ 6 ∧ wordB (topB ((l.drop (skipL l)).drop m)) = true
        · rw [if_pos hk, if_pos hk]; simp only [shT]; congr 2; omega
        · rw [if_neg hk, if_neg hk]
          match f, hf with
          | 0, hf => simp only [List.length_drop] at this; omega
          | f + 1, hf =>
            have e : b + j + skipL l + m = b + skipL l + m + j := by omega
            rw [e, tk_shift j f (b + skipL l + m) _ (by simp only [List.length_drop] at this ⊢; omega)]
            cases tk (b + skipL l + m) ((l.drop (skipL l)).drop m) with
            | inl e => rfl
            | inr t =>
              simp only [shT, List.map_cons]
              congr 3
              push_cast; omega
/-- Where an error lies. -/
theorem tk_bad : ∀ (f : Nat) (b : Nat) (l : List UInt8), l.length ≤ f → ∀ e a, tk b l = .inl (e, a) → b ≤ a ∧ a ≤ b + l.length ∧ e ≠ 0
  | f, b, l, hf, e, a, h => by
    rw [tk_eq] at h
    have h3 := skip_le _ l (Nat.le_refl _)
    by_cases hn : l.drop (skipL l) = []
    · rw [if_pos hn] at h; cases h
    · rw [if_neg hn] at h
      unfold stepT at h
      cases ho : oneL (l.drop (skipL l)) with
      | bad e' m =>
        rw [ho] at h
        have := one_bad hn ho
        cases h
        simp only [List.length_drop] at this
        exact ⟨by omega, by omega, this.2⟩
      | tok k s n m =>
        rw [ho] at h
        have := one_len hn ho
        simp only [List.length_drop] at this
        simp only at h
        split at h
        · cases h; exact ⟨by omega, by omega, by decide⟩
        · match f, hf with
          | 0, hf => omega
          | f + 1, hf =>
            cases hr : tk (b + skipL l + m) ((l.drop (skipL l)).drop m) with
            | inl x =>
              rw [hr] at h
              obtain ⟨e', a'⟩ := x
              have h4 := tk_bad f _ _ (by simp only [List.length_drop]; omega) e' a' hr
              cases h
              simp only [List.length_drop] at h4
              exact ⟨by omega, by omega, h4.2.2⟩
            | inr t => rw [hr] at h; cases h
/-- Each token's place, and what the text tells from there on. -/
theorem tk_at : ∀ (f : Nat) (b : Nat) (l : List UInt8), l.length ≤ f → ∀ ts, tk b l = .inr ts → ∀ i t, ts[i]? = some t →
    ∃ p : Nat, t.a = ((b + p : Nat) : Int) ∧ p < l.length ∧ (∀ j u, j < i → ts[j]? = some u → u.a < t.a) ∧ tk (b + p) (l.drop p) = .inr (ts.drop i)
  | f, b, l, hf, ts, h, i, t, hi => by
    have h0 := h
    rw [tk_eq] at h
    have h3 := skip_le _ l (Nat.le_refl _)
    by_cases hn : l.drop (skipL l) = []
    · rw [if_pos hn] at h; cases h; simp at hi
    · rw [if_neg hn] at h
      have h1 := h
      unfold stepT at h
      cases ho : oneL (l.drop (skipL l)) with
      | bad e' m => rw [ho] at h; cases h
      | tok k s n m =>
        rw [ho] at h
        have := one_len hn ho
        simp only [List.length_drop] at this
        simp only at h
        split at h
        · cases h
        · cases hr : tk (b + skipL l + m) ((l.drop (skipL l)).drop m) with
          | inl x => rw [hr] at h; cases h
          | inr t' =>
            rw [hr] at h
            cases h
            rcases i with _ | i
            · simp only [List.getElem?_cons_zero, Option.some.injEq] at hi
              subst hi
              refine ⟨skipL l, rfl, by omega, fun j u hj => absurd hj (by omega), ?_⟩
              rw [List.drop_zero, tk_step hn (skip_idem l)]
              exact h1
            · match f, hf with
              | 0, hf => omega
              | f + 1, hf =>
                simp only [List.getElem?_cons_succ] at hi
                obtain ⟨p, hp, hlt, hb4, he⟩ := tk_at f _ _ (by simp only [List.length_drop]; omega) t' hr i t hi
                simp only [List.length_drop] at hlt
                refine ⟨skipL l + m + p, by rw [hp]; push_cast; omega, by omega, ?_, ?_⟩
                · intro j u hj hu
                  rcases j with _ | j
                  · simp only [List.getElem?_cons_zero, Option.some.injEq] at hu
                    subst hu
                    rw [hp]; push_cast; omega
                  · simp only [List.getElem?_cons_succ] at hu
                    exact hb4 j u (by omega) hu
                · rw [List.drop_succ_cons, ← he, List.drop_drop, List.drop_drop]
                  congr 1
                  · omega
                  · congr 1; omega

/-- A token as it is written. -/
def textT (t : Tk) : List UInt8 :=
  if t.k = 1 ∨ t.k = 2 ∨ t.k = 6 then t.s.data.toList
  else if t.k = 3 then decDigits t.n
  else if t.k = 4 then 39 :: (quoteL t.s.data.toList ++ [39])
  else if t.k = 5 then 120 :: 39 :: (hexL t.s.data.toList ++ [39])
  else []
theorem textT_w {t : Tk} (h : t.k = 1 ∨ t.k = 2 ∨ t.k = 6) : textT t = t.s.data.toList := by unfold textT; rw [if_pos h]
theorem textT_3 {t : Tk} (h : t.k = 3) : textT t = decDigits t.n := by unfold textT; rw [if_neg (by omega), if_pos h]
theorem textT_4 {t : Tk} (h : t.k = 4) : textT t = 39 :: (quoteL t.s.data.toList ++ [39]) := by unfold textT; rw [if_neg (by omega), if_neg (by omega), if_pos h]
theorem textT_5 {t : Tk} (h : t.k = 5) : textT t = 120 :: 39 :: (hexL t.s.data.toList ++ [39]) := by unfold textT; rw [if_neg (by omega), if_neg (by omega), if_neg (by omega), if_pos h]
theorem textT_0 {t : Tk} (h : t.k = 0 ∨ 6 < t.k) : textT t = [] := by unfold textT; rw [if_neg (by omega), if_neg (by omega), if_neg (by omega), if_neg (by omega)]
/-- May a token be? -/
def okT (t : Tk) : Prop := textT t ≠ [] ∧ t.s.size ≤ 1000 ∧ oneL (textT t) = .tok t.k t.s.data.toList t.n (textT t).length
def joinL : List (List UInt8) → List UInt8
  | [] => []
  | [x] => x
  | x :: y :: l => x ++ 32 :: joinL (y :: l)
end Go.Proofs.YthjggbpbcdejbaaDoor.Dt
