/-
  Tokens: what a text is cut into; plain laws, no program in sight.
-/
import Derived.Test.YthjggbpbcdejbaaDoorLitSpec
namespace Go.Proofs.YthjggbpbcdejbaaDoor.Dt
open Go.Lib

/-- A token: its kind, its bytes, its number, its place. -/
structure Tk where
  k : Nat
  s : ByteArray
  n : Nat
  a : Int
theorem Tk.ext' {x y : Tk} (h1 : x.k = y.k) (h2 : x.s = y.s) (h3 : x.n = y.n) (h4 : x.a = y.a) : x = y := by cases x; cases y; simp_all
instance : DecidableEq Tk := fun x y => decidable_of_iff (x.k = y.k ∧ x.s = y.s ∧ x.n = y.n ∧ x.a = y.a) ⟨fun h => Tk.ext' h.1 h.2.1 h.2.2.1 h.2.2.2, fun h => by rw [h]; exact ⟨rfl, rfl, rfl, rfl⟩⟩

def smallB (c : UInt8) : Bool := decide (97 ≤ c.toNat ∧ c.toNat ≤ 122)
def capB (c : UInt8) : Bool := decide (65 ≤ c.toNat ∧ c.toNat ≤ 90)
def digB (c : UInt8) : Bool := decide (48 ≤ c.toNat ∧ c.toNat ≤ 57)
def wordB (c : UInt8) : Bool := smallB c || capB c || digB c || decide (c.toNat = 95)
def nameB (c : UInt8) : Bool := wordB c && !capB c
def blankB (c : UInt8) : Bool := decide (c.toNat = 32 ∨ c.toNat = 9 ∨ c.toNat = 10 ∨ c.toNat = 13)
def lineB (c : UInt8) : Bool := decide (c.toNat ≠ 10)

/-- How many bytes of a kind stand first. -/
def runL (p : UInt8 → Bool) : List UInt8 → Nat
  | [] => 0
  | c :: l => if p c then runL p l + 1 else 0
theorem runL_le (p : UInt8 → Bool) : ∀ l, runL p l ≤ l.length
  | [] => Nat.le_refl _
  | c :: l => by
    unfold runL
    have := runL_le p l
    split <;> simp only [List.length_cons] <;> omega

/-- The byte at the beginning; 0 of an empty text. -/
def topB : List UInt8 → UInt8
  | [] => 0
  | c :: _ => c
/-- How many bytes of blanks and remarks stand first. -/
def skipN : Nat → List UInt8 → Nat
  | 0, _ => 0
  | m + 1, l =>
    let r := runL blankB l
    let l' := l.drop r
    if topB l' = 45 ∧ topB (l'.drop 1) = 45 then
      let q := runL lineB l'
      r + q + skipN m (l'.drop q)
    else r
def skipL (l : List UInt8) : Nat := skipN (l.length + 1) l

/-- What stands in quotes, behind the first: the bytes, and how many signs. -/
def qscan : List UInt8 → Option (List UInt8 × Nat)
  | [] => none
  | [c] => if c = 39 then some ([], 1) else none
  | c :: d :: l => if c = 39 then (if d = 39 then (qscan l).map fun x => (39 :: x.1, x.2 + 2) else some ([], 1)) else (qscan (d :: l)).map fun x => (c :: x.1, x.2 + 1)
/-- What pairs of digits say, to the next quote; or where they end. -/
def bscan : List UInt8 → Nat ⊕ (List UInt8 × Nat)
  | [] => .inl 0
  | [c] => if c = 39 then .inr ([], 1) else if hexV c = none then .inl 0 else .inl 1
  | c :: d :: l => if c = 39 then .inr ([], 1) else
    match hexV c, hexV d with
    | none, _ => .inl 0
    | some _, none => .inl 1
    | some a, some b => match bscan l with
      | .inl e => .inl (e + 2)
      | .inr x => .inr (UInt8.ofNat (16 * a + b) :: x.1, x.2 + 2)

/-- The token that begins a text, and how long it is; or an error, and how far it lies. -/
inductive One where
  | tok (k : Nat) (s : List UInt8) (n : Nat) (m : Nat)
  | bad (e : Nat) (m : Nat)
instance : DecidableEq One := fun x y => match x, y with
  | .tok k s n m, .tok k' s' n' m' => decidable_of_iff (k = k' ∧ s = s' ∧ n = n' ∧ m = m') ⟨fun ⟨a, b, c, d⟩ => by rw [a, b, c, d], fun h => by cases h; exact ⟨rfl, rfl, rfl, rfl⟩⟩
  | .bad e m, .bad e' m' => decidable_of_iff (e = e' ∧ m = m') ⟨fun ⟨a, b⟩ => by rw [a, b], fun h => by cases h; exact ⟨rfl, rfl⟩⟩
  | .tok _ _ _ _, .bad _ _ => .isFalse (fun h => by cases h)
  | .bad _ _, .tok _ _ _ _ => .isFalse (fun h => by cases h)

def wordsL : List (List UInt8) := ["AND", "AS", "BEGIN", "BLOB", "BY", "COMMIT", "COUNT", "CREATE", "DELETE", "DESC", "DROP", "FROM", "GROUP", "HAVING", "INDEX", "INSERT", "INTEGER", "INTO", "IS", "JOIN", "KEY", "LIMIT", "MAX", "MIN", "NOT", "NULL", "ON", "OR", "ORDER", "PRIMARY", "RELEASE", "ROLLBACK", "SAVEPOINT", "SELECT", "SET", "SUM", "TABLE", "TEXT", "TO", "UNIQUE", "UPDATE", "VALUES", "WHERE"].map fun s => s.toUTF8.data.toList
def signsL : List UInt8 := [40, 41, 44, 46, 42, 43, 45, 47, 37, 61, 60, 62, 59]
def twosL : List (List UInt8) := [[60, 62], [60, 61], [62, 61], [124, 124]]

def wordOne (l : List UInt8) : One :=
  if capB (topB l) then
    if l.take (runL wordB l) ∈ wordsL then .tok 1 (l.take (runL wordB l)) 0 (runL wordB l) else .bad 6 0
  else if capB (topB (l.drop (runL nameB l))) then .bad 6 (runL nameB l)
  else if 32 < runL nameB l then .bad 3 0
  else .tok 2 (l.take (runL nameB l)) 0 (runL nameB l)
def numOne (l : List UInt8) : One :=
  if topB l = 48 ∧ digB (topB (l.drop 1)) then .bad 6 1
  else match decV 0 (l.take (runL digB l)) with
    | none => .bad 5 0
    | some n => if 9223372036854775808 < n then .bad 5 0 else .tok 3 [] n (runL digB l)
def textOne (l : List UInt8) : One :=
  match qscan (l.drop 1) with
  | none => .bad 6 l.length
  | some (t, m) => if 1000 < t.length then .bad 3 0 else .tok 4 t 0 (m + 1)
def blobOne (l : List UInt8) : One :=
  match bscan (l.drop 2) with
  | .inl e => .bad 6 (e + 2)
  | .inr (t, m) => if 1000 < t.length then .bad 3 0 else .tok 5 t 0 (m + 2)
def signOne (l : List UInt8) : One :=
  if l.take 2 ∈ twosL then .tok 6 (l.take 2) 0 2
  else if topB l ∈ signsL then .tok 6 (l.take 1) 0 1
  else .bad 6 0
def oneL (l : List UInt8) : One :=
  if topB l = 39 then textOne l
  else if topB l = 120 ∧ topB (l.drop 1) = 39 then blobOne l
  else if smallB (topB l) || capB (topB l) then wordOne l
  else if digB (topB l) then numOne l
  else signOne l

/-- A text's tokens, the text's place being so; or an error and its place. -/
def toksN : Nat → Nat → List UInt8 → (Nat × Nat) ⊕ List Tk
  | 0, _, _ => .inr []
  | f + 1, b, l =>
    if l.drop (skipL l) = [] then .inr []
    else match oneL (l.drop (skipL l)) with
      | .bad e m => .inl (e, b + skipL l + m)
      | .tok k s n m =>
        if k ≠ 6 ∧ wordB (topB ((l.drop (skipL l)).drop m)) then .inl (6, b + skipL l + m)
        else match toksN f (b + skipL l + m) ((l.drop (skipL l)).drop m) with
          | .inl e => .inl e
          | .inr t => .inr (⟨k, ⟨s.toArray⟩, n, ((b + skipL l : Nat) : Int)⟩ :: t)
def toksL (l : List UInt8) : (Nat × Nat) ⊕ List Tk := if 4096 < l.length then .inl (3, 4096) else toksN (l.length + 1) 0 l

theorem runL_drop (p : UInt8 → Bool) : ∀ l : List UInt8, l.drop (runL p l) = [] ∨ p (topB (l.drop (runL p l))) = false
  | [] => .inl rfl
  | c :: l => by
    unfold runL
    by_cases h : p c
    · rw [if_pos h]; exact runL_drop p l
    · rw [if_neg h]; right; simpa [topB] using h
theorem runL_pos {p : UInt8 → Bool} {c : UInt8} {l : List UInt8} (h : p c = true) : runL p (c :: l) = runL p l + 1 := by rw [runL, if_pos h]
theorem runL_neg {p : UInt8 → Bool} {c : UInt8} {l : List UInt8} (h : p c = false) : runL p (c :: l) = 0 := by rw [runL, if_neg (by simp [h])]
theorem runL_app {p : UInt8 → Bool} : ∀ {l m : List UInt8}, (∀ c ∈ l, p c = true) → runL p (l ++ m) = l.length + runL p m
  | [], _, _ => by simp
  | c :: l, m, h => by
    rw [List.cons_append, runL_pos (h c (by simp)), runL_app (fun x hx => h x (by simp [hx])), List.length_cons]; omega
theorem runL_all {p : UInt8 → Bool} : ∀ (l : List UInt8), ∀ c ∈ l.take (runL p l), p c = true
  | [], _, h => by simp at h
  | c :: l, x, h => by
    by_cases hc : p c = true
    · rw [runL_pos hc, List.take_succ_cons] at h
      rcases List.mem_cons.1 h with rfl | h
      · exact hc
      · exact runL_all l x h
    · rw [runL_neg (by simpa using hc)] at h; simp at h

/-- Where does it begin with two dashes? -/
def dashes (l : List UInt8) : Prop := topB l = 45 ∧ topB (l.drop 1) = 45
instance (l : List UInt8) : Decidable (dashes l) := by unfold dashes; exact inferInstance
theorem dashes_line {l : List UInt8} (h : dashes l) : 2 ≤ runL lineB l := by
  match l, h with
  | [], h => exact absurd h.1 (by decide)
  | [c], h => exact absurd h.2 (by simp [topB])
  | c :: d :: l, h =>
    have h1 : c = 45 := h.1
    have h2 : d = 45 := h.2
    subst h1 h2
    rw [runL_pos (by decide), runL_pos (by decide)]; omega
theorem skipN_succ (m : Nat) (l : List UInt8) : skipN (m + 1) l = if dashes (l.drop (runL blankB l)) then runL blankB l + runL lineB (l.drop (runL blankB l)) + skipN m ((l.drop (runL blankB l)).drop (runL lineB (l.drop (runL blankB l)))) else runL blankB l := rfl
theorem skipN_more : ∀ (m k : Nat) (l : List UInt8), l.length < m → l.length < k → skipN m l = skipN k l
  | 0, _, _, h, _ => absurd h (by omega)
  | _ + 1, 0, _, _, h => absurd h (by omega)
  | m + 1, k + 1, l, h1, h2 => by
    rw [skipN_succ, skipN_succ]
    by_cases hd : dashes (l.drop (runL blankB l))
    · rw [if_pos hd, if_pos hd]
      have := dashes_line hd
      have h3 := runL_le lineB (l.drop (runL blankB l))
      rw [skipN_more m k _ (by simp only [List.length_drop] at h3 ⊢; omega) (by simp only [List.length_drop] at h3 ⊢; omega)]
    · rw [if_neg hd, if_neg hd]
/-- A round of the skipping. -/
theorem skip_eq (l : List UInt8) : skipL l = if dashes (l.drop (runL blankB l)) then runL blankB l + runL lineB (l.drop (runL blankB l)) + skipL ((l.drop (runL blankB l)).drop (runL lineB (l.drop (runL blankB l)))) else runL blankB l := by
  unfold skipL
  rw [skipN_succ]
  by_cases hd : dashes (l.drop (runL blankB l))
  · rw [if_pos hd, if_pos hd]
    have := dashes_line hd
    have h3 := runL_le lineB (l.drop (runL blankB l))
    rw [skipN_more l.length _ _ (by simp only [List.length_drop] at h3 ⊢; omega) (Nat.lt_succ_self _)]
  · rw [if_neg hd, if_neg hd]
theorem skip_blank {c : UInt8} {l : List UInt8} (h : blankB c = true) : skipL (c :: l) = skipL l + 1 := by
  rw [skip_eq, skip_eq l, runL_pos h, List.drop_succ_cons]
  split <;> omega
theorem skip_line {l : List UInt8} (h : dashes l) : skipL l = runL lineB l + skipL (l.drop (runL lineB l)) := by
  have hr : runL blankB l = 0 := by
    match l, h with
    | [], _ => rfl
    | c :: l, h => exact runL_neg (by have h1 : c = 45 := h.1; subst h1; decide)
  rw [skip_eq, hr, List.drop_zero, if_pos h, Nat.zero_add]
theorem skip_none {l : List UInt8} (h1 : blankB (topB l) = false) (h2 : ¬ dashes l) : skipL l = 0 := by
  have hr : runL blankB l = 0 := by
    match l, h1 with
    | [], _ => rfl
    | c :: l, h => exact runL_neg h
  rw [skip_eq, hr, List.drop_zero, if_neg h2]
theorem skip_nil : skipL [] = 0 := rfl
theorem skip_le : ∀ (m : Nat) (l : List UInt8), l.length ≤ m → skipL l ≤ l.length
  | 0, l, h => by
    have : l = [] := List.length_eq_zero_iff.1 (by omega)
    subst this; exact Nat.le_refl _
  | m + 1, l, h => by
    rw [skip_eq]
    have h1 := runL_le blankB l
    by_cases hd : dashes (l.drop (runL blankB l))
    · rw [if_pos hd]
      have := dashes_line hd
      have h3 := runL_le lineB (l.drop (runL blankB l))
      have h4 := skip_le m ((l.drop (runL blankB l)).drop (runL lineB (l.drop (runL blankB l)))) (by simp only [List.length_drop] at h3 ⊢; omega)
      simp only [List.length_drop] at h3 h4
      omega
    · rw [if_neg hd]; exact h1
/-- Behind the skipping nothing is skipped. -/
theorem skip_stop : ∀ (m : Nat) (l : List UInt8), l.length ≤ m → blankB (topB (l.drop (skipL l))) = false ∧ ¬ dashes (l.drop (skipL l))
  | 0, l, h => by
    have : l = [] := List.length_eq_zero_iff.1 (by omega)
    subst this; exact ⟨by decide, by decide⟩
  | m + 1, l, h => by
    rw [skip_eq]
    by_cases hd : dashes (l.drop (runL blankB l))
    · rw [if_pos hd]
      have := dashes_line hd
      have h3 := runL_le lineB (l.drop (runL blankB l))
      have h4 := skip_stop m ((l.drop (runL blankB l)).drop (runL lineB (l.drop (runL blankB l)))) (by simp only [List.length_drop] at h3 ⊢; omega)
      rw [List.drop_drop, List.drop_drop] at h4
      rw [← Nat.add_assoc] at h4
      exact h4
    · rw [if_neg hd]
      refine ⟨?_, hd⟩
      rcases runL_drop blankB l with h1 | h1
      · rw [h1]; decide
      · exact h1
theorem skip_idem (l : List UInt8) : skipL (l.drop (skipL l)) = 0 := by
  obtain ⟨h1, h2⟩ := skip_stop l.length l (Nat.le_refl _)
  exact skip_none h1 h2

theorem qscan_len : ∀ (f : Nat) (l : List UInt8), l.length ≤ f → ∀ t m, qscan l = some (t, m) → 1 ≤ m ∧ m ≤ l.length ∧ t.length ≤ m
  | _, [], _, _, _, h => by cases h
  | _, [c], _, t, m, h => by
    unfold qscan at h
    split at h
    · cases h; exact ⟨by omega, by simp, by simp⟩
    · cases h
  | 0, _ :: _ :: _, h, _, _, _ => by simp at h
  | f + 1, c :: d :: l, hl, t, m, h => by
    unfold qscan at h
    simp only [List.length_cons] at hl
    split at h
    · split at h
      · cases hq : qscan l with
        | none => rw [hq] at h; cases h
        | some x =>
          rw [hq] at h
          obtain ⟨t', m'⟩ := x
          have := qscan_len f l (by omega) t' m' hq
          cases h
          simp only [List.length_cons]; omega
      · cases h; simp
    · cases hq : qscan (d :: l) with
      | none => rw [hq] at h; cases h
      | some x =>
        rw [hq] at h
        obtain ⟨t', m'⟩ := x
        have := qscan_len f (d :: l) (by simp only [List.length_cons]; omega) t' m' hq
        cases h
        simp only [List.length_cons] at this ⊢; omega
theorem bscan_len : ∀ (f : Nat) (l : List UInt8), l.length ≤ f → ∀ t m, bscan l = .inr (t, m) → 1 ≤ m ∧ m ≤ l.length ∧ t.length ≤ m
  | _, [], _, _, _, h => by cases h
  | _, [c], _, t, m, h => by
    unfold bscan at h
    split at h
    · cases h; exact ⟨by omega, by simp, by simp⟩
    · split at h <;> cases h
  | 0, _ :: _ :: _, h, _, _, _ => by simp at h
  | f + 1, c :: d :: l, hl, t, m, h => by
    unfold bscan at h
    simp only [List.length_cons] at hl
    split at h
    · cases h; simp
    · split at h
      · cases h
      · cases h
      · split at h
        · cases h
        · rename_i x hq
          obtain ⟨t', m'⟩ := x
          have := bscan_len f l (by omega) t' m' hq
          cases h
          simp only [List.length_cons]; omega
theorem bscan_bad : ∀ (f : Nat) (l : List UInt8), l.length ≤ f → ∀ e, bscan l = .inl e → e ≤ l.length
  | _, [], _, _, h => by cases h; simp
  | _, [c], _, e, h => by
    unfold bscan at h
    split at h
    · cases h
    · split at h <;> cases h <;> simp
  | 0, _ :: _ :: _, h, _, _ => by simp at h
  | f + 1, c :: d :: l, hl, e, h => by
    unfold bscan at h
    simp only [List.length_cons] at hl
    split at h
    · cases h
    · split at h
      · cases h; simp
      · cases h; simp
      · split at h
        · rename_i x hq
          have := bscan_bad f l (by omega) x hq
          cases h
          simp only [List.length_cons]; omega
        · cases h
/-- A token is of the text that it begins. -/
theorem one_len {l : List UInt8} (hl : l ≠ []) {k : Nat} {s : List UInt8} {n m : Nat} (h : oneL l = .tok k s n m) : 1 ≤ m ∧ m ≤ l.length ∧ s.length ≤ l.length := by
  obtain ⟨c, l, rfl⟩ : ∃ c l', l = c :: l' := by cases l with | nil => exact absurd rfl hl | cons c l => exact ⟨c, l, rfl⟩
  unfold oneL at h
  split at h
  · unfold textOne at h
    split at h
    · cases h
    · rename_i t m' hq
      have := qscan_len _ _ (Nat.le_refl _) _ _ hq
      split at h
      · cases h
      · cases h; simp only [List.drop_succ_cons, List.drop_zero, List.length_cons] at this ⊢; omega
  · split at h
    · unfold blobOne at h
      split at h
      · cases h
      · rename_i t m' hq
        have := bscan_len _ _ (Nat.le_refl _) _ _ hq
        split at h
        · cases h
        · cases h; simp only [List.length_drop, List.length_cons] at this ⊢; omega
    · split at h
      · rename_i hc
        unfold wordOne at h
        have h1 := runL_le wordB (c :: l)
        have h2 := runL_le nameB (c :: l)
        have hc' : (smallB c || capB c) = true := hc
        split at h
        · rename_i hcap
          have hw : wordB c = true := by unfold wordB; rw [show capB c = true from hcap]; simp
          have h3 : runL wordB (c :: l) = runL wordB l + 1 := runL_pos hw
          split at h
          · cases h; simp only [List.length_take]; omega
          · cases h
        · rename_i hcap
          have hw : nameB c = true := by
            have e : capB c = false := by simpa [topB] using hcap
            rw [e, Bool.or_false] at hc'
            unfold nameB wordB; rw [e, hc']; rfl
          have h3 : runL nameB (c :: l) = runL nameB l + 1 := runL_pos hw
          split at h
          · cases h
          · split at h
            · cases h
            · cases h; simp only [List.length_take]; omega
      · split at h
        · rename_i hd
          unfold numOne at h
          have h1 := runL_le digB (c :: l)
          have h3 : runL digB (c :: l) = runL digB l + 1 := runL_pos hd
          split at h
          · cases h
          · split at h
            · cases h
            · split at h
              · cases h
              · cases h; simp only [List.length_nil]; omega
        · unfold signOne at h
          split at h
          · rename_i ht
            have h4 : 2 ≤ (c :: l).length := by
              rcases l with _ | ⟨d, l⟩
              · exfalso
                simp [twosL] at ht
              · simp
            cases h; simp only [List.length_take]; omega
          · split at h
            · cases h; simp
            · cases h
theorem one_bad {l : List UInt8} (hl : l ≠ []) {e m : Nat} (h : oneL l = .bad e m) : m ≤ l.length ∧ e ≠ 0 := by
  obtain ⟨c, l, rfl⟩ : ∃ c l', l = c :: l' := by cases l with | nil => exact absurd rfl hl | cons c l => exact ⟨c, l, rfl⟩
  unfold oneL at h
  split at h
  · unfold textOne at h
    split at h
    · cases h; simp
    · split at h
      · cases h; simp
      · cases h
  · split at h
    · rename_i hx
      have h4 : 2 ≤ (c :: l).length := by
        rcases l with _ | ⟨d, l⟩
        · exact absurd hx.2 (by simp [topB])
        · simp
      unfold blobOne at h
      split at h
      · rename_i x hq
        have := bscan_bad _ _ (Nat.le_refl _) _ hq
        cases h; simp only [List.length_drop] at this; omega
      · split at h
        · cases h; simp
        · cases h
    · split at h
      · unfold wordOne at h
        have h2 := runL_le nameB (c :: l)
        split at h
        · split at h
          · cases h
          · cases h; simp
        · split at h
          · cases h; exact ⟨h2, by decide⟩
          · split at h
            · cases h; simp
            · cases h
      · split at h
        · unfold numOne at h
          split at h
          · cases h; simp
          · split at h
            · cases h; simp
            · split at h
              · cases h; simp
              · cases h
        · unfold signOne at h
          split at h
          · cases h
          · split at h
            · cases h
            · cases h; simp
end Go.Proofs.YthjggbpbcdejbaaDoor.Dt
