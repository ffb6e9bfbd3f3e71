import Derived.Test.YtjgkeillmelkoaaGreatBk01
namespace Go.Proofs.YtjgkeillmelkoaaGreat.Dt
open Go.Lib

/-- A token: its kind, its bytes, its number, its place. -/
structure Tk where
  k : Nat
  s : ByteArray
  n : Nat
  a : Int
theorem Tk.ext' {x y : Tk} (h1 : x.k = y.k) (h2 : x.s = y.s) (h3 : x.n = y.n) (h4 : x.a = y.a) : x = y := by cases x; cases y; simp_all
instance : DecidableEq Tk := fun x y => decidable_of_iff (x.k = y.k ∧ x.s = y.s ∧ x.n = y.n ∧ x.a = y.a) ⟨fun h => Tk.ext' h.1 h.2.1 h.2.2.1 h.2.2.2, fun h => by rw [h]; exact ⟨rfl, rfl, rfl, rfl⟩⟩

def smallB (c : UInt8) : Bool := decide (97 ≤ c.toNat ∧ c.toNat ≤ 122)
def capB (c : UInt8) : Bool := decide (65 ≤ c.toNat ∧ c.toNat ≤ 90)
def digB (c : UInt8) : Bool := decide (48 ≤ c.toNat ∧ c.toNat ≤ 57)
def wordB (c : UInt8) : Bool := smallB c || capB c || digB c || decide (c.toNat = 95)
def nameB (c : UInt8) : Bool := wordB c && !capB c
def blankB (c : UInt8) : Bool := decide (c.toNat = 32 ∨ c.toNat = 9 ∨ c.toNat = 10 ∨ c.toNat = 13)
def lineB (c : UInt8) : Bool := decide (c.toNat ≠ 10)

/-- How many bytes of a kind stand first. -/
def runL (p : UInt8 → Bool) : List UInt8 → Nat
  | [] => 0
  | c :: l => if p c then runL p l + 1 else 0
theorem runL_le (p : UInt8 → Bool) : ∀ l, runL p l ≤ l.length
  | [] => Nat.le_refl _
  | c :: l => by
    unfold runL
    have := runL_le p l
    split <;> simp only [List.length_cons] <;> omega

/-- The byte at the beginning; 0 of an empty text. -/
def topB : List UInt8 → UInt8
  | [] => 0
  | c :: _ => c
/-- How many bytes of blanks and remarks stand first. -/
def skipN : Nat → List UInt8 → Nat
  | 0, _ => 0
  | m + 1, l =>
    let r := runL blankB l
    let l' := l.drop r
    if topB l' = 45 ∧ topB (l'.drop 1) = 45 then
      let q := runL lineB l'
      r + q + skipN m (l'.drop q)
    else r
def skipL (l : List UInt8) : Nat := skipN (l.length + 1) l

/-- What stands in quotes, behind the first: the bytes, and how many signs. -/
def qscan : List UInt8 → Option (List UInt8 × Nat)
  | [] => none
  | [c] => if c = 39 then some ([], 1) else none
  | c :: d :: l => if c = 39 then (if d = 39 then (qscan l).map fun x => (39 :: x.1, x.2 + 2) else some ([], 1)) else (qscan (d :: l)).map fun x => (c :: x.1, x.2 + 1)
/-- What pairs of digits say, to the next quote; or where they end. -/
def bscan : List UInt8 → Nat ⊕ (List UInt8 × Nat)
  | [] => .inl 0
  | [c] => if c = 39 then .inr ([], 1) else if hexV c = none then .inl 0 else .inl 1
  | c :: d :: l => if c = 39 then .inr ([], 1) else
    match hexV c, hexV d with
    | none, _ => .inl 0
    | some _, none => .inl 1
    | some a, some b => match bscan l with
      | .inl e => .inl (e + 2)
      | .inr x => .inr (UInt8.ofNat (16 * a + b) :: x.1, x.2 + 2)

/-- The token that begins a text, and how long it is; or an error, and how far it lies. -/
inductive One where
  | tok (k : Nat) (s : List UInt8) (n : Nat) (m : Nat)
  | bad (e : Nat) (m : Nat)
instance : DecidableEq One := fun x y => match x, y with
  | .tok k s n m, .tok k' s' n' m' => decidable_of_iff (k = k' ∧ s = s' ∧ n = n' ∧ m = m') ⟨fun ⟨a, b, c, d⟩ => by rw [a, b, c, d], fun h => by cases h; exact ⟨rfl, rfl, rfl, rfl⟩⟩
  | .bad e m, .bad e' m' => decidable_of_iff (e = e' ∧ m = m') ⟨fun ⟨a, b⟩ => by rw [a, b], fun h => by cases h; exact ⟨rfl, rfl⟩⟩
  | .tok _ _ _ _, .bad _ _ => .isFalse (fun h => by cases h)
  | .bad _ _, .tok _ _ _ _ => .isFalse (fun h => by cases h)

def wordsL : List (List UInt8) := ["AND", "AS", "BEGIN", "BLOB", "BY", "COMMIT", "COUNT", "CREATE", "DELETE", "DESC", "DROP", "FROM", "GROUP", "HAVING", "INDEX", "INSERT", "INTEGER", "INTO", "IS", "JOIN", "KEY", "LIMIT", "MAX", "MIN", "NOT", "NULL", "ON", "OR", "ORDER", "PRIMARY", "RELEASE", "ROLLBACK", "SAVEPOINT", "SELECT", "SET", "SUM", "TABLE", "TEXT", "TO", "UNIQUE", "UPDATE", "VALUES", "WHERE"].map fun s => s.toUTF8.data.toList
def signsL : List UInt8 := [40, 41, 44, 46, 42, 43, 45, 47, 37, 61, 60, 62, 59]
def twosL : List (List UInt8) := [[60, 62], [60, 61], [62, 61], [124, 124]]

def wordOne (l : List UInt8) : One :=
  if capB (topB l) then
    if l.take (runL wordB l) ∈ wordsL then .tok 1 (l.take (runL wordB l)) 0 (runL wordB l) else .bad 6 0
  else if capB (topB (l.drop (runL nameB l))) then .bad 6 (runL nameB l)
  else if 32 < runL nameB l then .bad 3 0
  else .tok 2 (l.take (runL nameB l)) 0 (runL nameB l)
def numOne (l : List UInt8) : One :=
  if topB l = 48 ∧ digB (topB (l.drop 1)) then .bad 6 1
  else match decV 0 (l.take (runL digB l)) with
    | none => .bad 5 0
    | some n => if 9223372036854775808 < n then .bad 5 0 else .tok 3 [] n (runL digB l)
def textOne (l : List UInt8) : One :=
  match qscan (l.drop 1) with
  | none => .bad 6 l.length
  | some (t, m) => if 1000 < t.length then .bad 3 0 else .tok 4 t 0 (m + 1)
def blobOne (l : List UInt8) : One :=
  match bscan (l.drop 2) with
  | .inl e => .bad 6 (e + 2)
  | .inr (t, m) => if 1000 < t.length then .bad 3 0 else .tok 5 t 0 (m + 2)
def signOne (l : List UInt8) : One :=
  if l.take 2 ∈ twosL then .tok 6 (l.take 2) 0 2
  else if topB l ∈ signsL then .tok 6 (l.take 1) 0 1
  else .bad 6 0
def oneL (l : List UInt8) : One :=
  if topB l = 39 then textOne l
  else if topB l = 120 ∧ topB (l.drop 1) = 39 then blobOne l
  else if smallB (topB l) || capB (topB l) then wordOne l
  else if digB (topB l) then numOne l
  else signOne l

/-- A text's tokens, the text's place being so; or an error and its place. -/
def toksN : Nat → Nat → List UInt8 → (Nat × Nat) ⊕ List Tk
  | 0, _, _ => .inr []
  | f + 1, b, l =>
    if l.drop (skipL l) = [] then .inr []
    else match oneL (l.drop (skipL l)) with
      | .bad e m => .inl (e, b + skipL l + m)
      | .tok k s n m =>
        if k ≠ 6 ∧ wordB (topB ((l.drop (skipL l)).drop m)) then .inl (6, b + skipL l + m)
        else match toksN f (b + skipL l + m) ((l.drop (skipL l)).drop m) with
          | .inl e => .inl e
          | .inr t => .inr (⟨k, ⟨s.toArray⟩, n, ((b + skipL l : Nat) : Int)⟩ :: t)
def toksL (l : List UInt8) : (Nat × Nat) ⊕ List Tk := if 4096 < l.length then .inl (3, 4096) else toksN (l.length + 1) 0 l

theorem runL_drop (p : UInt8 → Bool) : ∀ l : List UInt8, l.drop (runL p l) = [] ∨ p (topB (l.drop (runL p l))) = false
  | [] => .inl rfl
  | c :: l => by
    unfold runL
    by_cases h : p c
    · rw [if_pos h]; exact runL_drop p l
    · rw [if_neg h]; right; simpa [topB] using h
theorem runL_pos {p : UInt8 → Bool} {c : UInt8} {l : List UInt8} (h : p c = true) : runL p (c :: l) = runL p l + 1 := by rw [runL, if_pos h]
theorem runL_neg {p : UInt8 → Bool} {c : UInt8} {l : List UInt8} (h : p c = false) : runL p (c :: l) = 0 := by rw [runL, if_neg (by simp [h])]
theorem runL_app {p : UInt8 → Bool} : ∀ {l m : List UInt8}, (∀ c ∈ l, p c = true) → runL p (l ++ m) = l.length + runL p m
  | [], _, _ => by simp
  | c :: l, m, h => by
    rw [List.cons_append, runL_pos (h c (by simp)), runL_app (fun x hx => h x (by simp [hx])), List.length_cons]; omega
theorem runL_all {p : UInt8 → Bool} : ∀ (l : List UInt8), ∀ c ∈ l.take (runL p l), p c = true
  | [], _, h => by simp at h
  | c :: l, x, h => by
    by_cases hc : p c = true
    · rw [runL_pos hc, List.take_succ_cons] at h
      rcases List.mem_cons.1 h with rfl | h
      · exact hc
      · exact runL_all l x h
    · rw [runL_neg (by simpa using hc)] at h; simp at h

/-- Where does it begin with two dashes? -/
def dashes (l : List UInt8) : Prop := topB l = 45 ∧ topB (l.drop 1) = 45
instance (l : List UInt8) : Decidable (dashes l) := by unfold dashes; exact inferInstance
theorem dashes_line {l : List UInt8} (h : dashes l) : 2 ≤ runL lineB l := by
  match l, h with
  | [], h => exact absurd h.1 (by decide)
  | [c], h => exact absurd h.2 (by simp [topB])
  | c :: d :: l, h =>
    have h1 : c = 45 := h.1
    have h2 : d = 45 := h.2
    subst h1 h2
    rw [runL_pos (by decide), runL_pos (by decide)]; omega
theorem skipN_succ (m : Nat) (l : List UInt8) : skipN (m + 1) l = if dashes (l.drop (runL blankB l)) then runL blankB l + runL lineB (l.drop (runL blankB l)) + skipN m ((l.drop (runL blankB l)).drop (runL lineB (l.drop (runL blankB l)))) else runL blankB l := rfl
theorem skipN_more : ∀ (m k : Nat) (l : List UInt8), l.length < m → l.length < k → skipN m l = skipN k l
  | 0, _, _, h, _ => absurd h (by omega)
  | _ + 1, 0, _, _, h => absurd h (by omega)
  | m + 1, k + 1, l, h1, h2 => by
    rw [skipN_succ, skipN_succ]
    by_cases hd : dashes (l.drop (runL blankB l))
    · rw [if_pos hd, if_pos hd]
      have := dashes_line hd
      have h3 := runL_le lineB (l.drop (runL blankB l))
      rw [skipN_more m k _ (by simp only [List.length_drop] at h3 ⊢; omega) (by simp only [List.length_drop] at h3 ⊢; omega)]
    · rw [if_neg hd, if_neg hd]
/-- A round of the skipping. -/
theorem skip_eq (l : List UInt8) : skipL l = if dashes (l.drop (runL blankB l)) then runL blankB l + runL lineB (l.drop (runL blankB l)) + skipL ((l.drop (runL blankB l)).drop (runL lineB (l.drop (runL blankB l)))) else runL blankB l := by
  unfold skipL
  rw [skipN_succ]
  by_cases hd : dashes (l.drop (runL blankB l))
  · rw [if_pos hd, if_pos hd]
    have := dashes_line hd
    have h3 := runL_le lineB (l.drop (runL blankB l))
    rw [skipN_more l.length _ _ (by simp only [List.length_drop] at h3 ⊢; omega) (Nat.lt_succ_self _)]
  · rw [if_neg hd, if_neg hd]
theorem skip_blank {c : UInt8} {l : List UInt8} (h : blankB c = true) : skipL (c :: l) = skipL l + 1 := by
  rw [skip_eq, skip_eq l, runL_pos h, List.drop_succ_cons]
  split <;> omega
theorem skip_line {l : List UInt8} (h : dashes l) : skipL l = runL lineB l + skipL (l.drop (runL lineB l)) := by
  have hr : runL blankB l = 0 := by
    match l, h with
    | [], _ => rfl
    | c :: l, h => exact runL_neg (by have h1 : c = 45 := h.1; subst h1; decide)
  rw [skip_eq, hr, List.drop_zero, if_pos h, Nat.zero_add]
theorem skip_none {l : List UInt8} (h1 : blankB (topB l) = false) (h2 : ¬ dashes l) : skipL l = 0 := by
  have hr : runL blankB l = 0 := by
    match l, h1 with
    | [], _ => rfl
    | c :: l, h => exact runL_neg h
  rw [skip_eq, hr, List.drop_zero, if_neg h2]
theorem skip_le : ∀ (m : Nat) (l : List UInt8), l.length ≤ m → skipL l ≤ l.length
  | 0, l, h => by
    have : l = [] := List.length_eq_zero_iff.1 (by omega)
    subst this; exact Nat.le_refl _
  | m + 1, l, h => by
    rw [skip_eq]
    have h1 := runL_le blankB l
    by_cases hd : dashes (l.drop (runL blankB l))
    · rw [if_pos hd]
      have := dashes_line hd
      have h3 := runL_le lineB (l.drop (runL blankB l))
      have h4 := skip_le m ((l.drop (runL blankB l)).drop (runL lineB (l.drop (runL blankB l)))) (by simp only [List.length_drop] at h3 ⊢; omega)
      simp only [List.length_drop] at h3 h4
      omega
    · rw [if_neg hd]; exact h1
/-- Behind the skipping nothing is skipped. -/
theorem skip_stop : ∀ (m : Nat) (l : List UInt8), l.length ≤ m → blankB (topB (l.drop (skipL l))) = false ∧ ¬ dashes (l.drop (skipL l))
  | 0, l, h => by
    have : l = [] := List.length_eq_zero_iff.1 (by omega)
    subst this; exact ⟨by decide, by decide⟩
  | m + 1, l, h => by
    rw [skip_eq]
    by_cases hd : dashes (l.drop (runL blankB l))
    · rw [if_pos hd]
      have := dashes_line hd
      have h3 := runL_le lineB (l.drop (runL blankB l))
      have h4 := skip_stop m ((l.drop (runL blankB l)).drop (runL lineB (l.drop (runL blankB l)))) (by simp only [List.length_drop] at h3 ⊢; omega)
      rw [List.drop_drop, List.drop_drop] at h4
      rw [← Nat.add_assoc] at h4
      exact h4
    · rw [if_neg hd]
      refine ⟨?_, hd⟩
      rcases runL_drop blankB l with h1 | h1
      · rw [h1]; decide
      · exact h1
theorem skip_idem (l : List UInt8) : skipL (l.drop (skipL l)) = 0 := by
  obtain ⟨h1, h2⟩ := skip_stop l.length l (Nat.le_refl _)
  exact skip_none h1 h2

theorem qscan_len : ∀ (f : Nat) (l : List UInt8), l.length ≤ f → ∀ t m, qscan l = some (t, m) → 1 ≤ m ∧ m ≤ l.length ∧ t.length ≤ m
  | _, [], _, _, _, h => by cases h
  | _, [c], _, t, m, h => by
    unfold qscan at h
    split at h
    · cases h; exact ⟨by omega, by simp, by simp⟩
    · cases h
  | 0, _ :: _ :: _, h, _, _, _ => by simp at h
  | f + 1, c :: d :: l, hl, t, m, h => by
    unfold qscan at h
    simp only [List.length_cons] at hl
    split at h
    · split at h
      · cases hq : qscan l with
        | none => rw [hq] at h; cases h
        | some x =>
          rw [hq] at h
          obtain ⟨t', m'⟩ := x
          have := qscan_len f l (by omega) t' m' hq
          cases h
          simp only [List.length_cons]; omega
      · cases h; simp
    · cases hq : qscan (d :: l) with
      | none => rw [hq] at h; cases h
      | some x =>
        rw [hq] at h
        obtain ⟨t', m'⟩ := x
        have := qscan_len f (d :: l) (by simp only [List.length_cons]; omega) t' m' hq
        cases h
        simp only [List.length_cons] at this ⊢; omega
theorem bscan_len : ∀ (f : Nat) (l : List UInt8), l.length ≤ f → ∀ t m, bscan l = .inr (t, m) → 1 ≤ m ∧ m ≤ l.length ∧ t.length ≤ m
  | _, [], _, _, _, h => by cases h
  | _, [c], _, t, m, h => by
    unfold bscan at h
    split at h
    · cases h; exact ⟨by omega, by simp, by simp⟩
    · split at h <;> cases h
  | 0, _ :: _ :: _, h, _, _, _ => by simp at h
  | f + 1, c :: d :: l, hl, t, m, h => by
    unfold bscan at h
    simp only [List.length_cons] at hl
    split at h
    · cases h; simp
    · split at h
      · cases h
      · cases h
      · split at h
        · cases h
        · rename_i x hq
          obtain ⟨t', m'⟩ := x
          have := bscan_len f l (by omega) t' m' hq
          cases h
          simp only [List.length_cons]; omega
theorem bscan_bad : ∀ (f : Nat) (l : List UInt8), l.length ≤ f → ∀ e, bscan l = .inl e → e ≤ l.length
  | _, [], _, _, h => by cases h; simp
  | _, [c], _, e, h => by
    unfold bscan at h
    split at h
    · cases h
    · split at h <;> cases h <;> simp
  | 0, _ :: _ :: _, h, _, _ => by simp at h
  | f + 1, c :: d :: l, hl, e, h => by
    unfold bscan at h
    simp only [List.length_cons] at hl
    split at h
    · cases h
    · split at h
      · cases h; simp
      · cases h; simp
      · split at h
        · rename_i x hq
          have := bscan_bad f l (by omega) x hq
          cases h
          simp only [List.length_cons]; omega
        · cases h
/-- A token is of the text that it begins. -/
theorem one_len {l : List UInt8} (hl : l ≠ []) {k : Nat} {s : List UInt8} {n m : Nat} (h : oneL l = .tok k s n m) : 1 ≤ m ∧ m ≤ l.length ∧ s.length ≤ l.length := by
  obtain ⟨c, l, rfl⟩ : ∃ c l', l = c :: l' := by cases l with | nil => exact absurd rfl hl | cons c l => exact ⟨c, l, rfl⟩
  unfold oneL at h
  split at h
  · unfold textOne at h
    split at h
    · cases h
    · rename_i t m' hq
      have := qscan_len _ _ (Nat.le_refl _) _ _ hq
      split at h
      · cases h
      · cases h; simp only [List.drop_succ_cons, List.drop_zero, List.length_cons] at this ⊢; omega
  · split at h
    · unfold blobOne at h
      split at h
      · cases h
      · rename_i t m' hq
        have := bscan_len _ _ (Nat.le_refl _) _ _ hq
        split at h
        · cases h
        · cases h; simp only [List.length_drop, List.length_cons] at this ⊢; omega
    · split at h
      · rename_i hc
        unfold wordOne at h
        have h1 := runL_le wordB (c :: l)
        have h2 := runL_le nameB (c :: l)
        have hc' : (smallB c || capB c) = true := hc
        split at h
        · rename_i hcap
          have hw : wordB c = true := by unfold wordB; rw [show capB c = true from hcap]; simp
          have h3 : runL wordB (c :: l) = runL wordB l + 1 := runL_pos hw
          split at h
          · cases h; simp only [List.length_take]; omega
          · cases h
        · rename_i hcap
          have hw : nameB c = true := by
            have e : capB c = false := by simpa [topB] using hcap
            rw [e, Bool.or_false] at hc'
            unfold nameB wordB; rw [e, hc']; rfl
          have h3 : runL nameB (c :: l) = runL nameB l + 1 := runL_pos hw
          split at h
          · cases h
          · split at h
            · cases h
            · cases h; simp only [List.length_take]; omega
      · split at h
        · rename_i hd
          unfold numOne at h
          have h1 := runL_le digB (c :: l)
          have h3 : runL digB (c :: l) = runL digB l + 1 := runL_pos hd
          split at h
          · cases h
          · split at h
            · cases h
            · split at h
              · cases h
              · cases h; simp only [List.length_nil]; omega
        · unfold signOne at h
          split at h
          · rename_i ht
            have h4 : 2 ≤ (c :: l).length := by
              rcases l with _ | ⟨d, l⟩
              · exfalso
                simp [twosL] at ht
              · simp
            cases h; simp only [List.length_take]; omega
          · split at h
            · cases h; simp
            · cases h
theorem one_bad {l : List UInt8} (hl : l ≠ []) {e m : Nat} (h : oneL l = .bad e m) : m ≤ l.length ∧ e ≠ 0 := by
  obtain ⟨c, l, rfl⟩ : ∃ c l', l = c :: l' := by cases l with | nil => exact absurd rfl hl | cons c l => exact ⟨c, l, rfl⟩
  unfold oneL at h
  split at h
  · unfold textOne at h
    split at h
    · cases h; simp
    · split at h
      · cases h; simp
      · cases h
  · split at h
    · rename_i hx
      have h4 : 2 ≤ (c :: l).length := by
        rcases l with _ | ⟨d, l⟩
        · exact absurd hx.2 (by simp [topB])
        · simp
      unfold blobOne at h
      split at h
      · rename_i x hq
        have := bscan_bad _ _ (Nat.le_refl _) _ hq
        cases h; simp only [List.length_drop] at this; omega
      · split at h
        · cases h; simp
        · cases h
    · split at h
      · unfold wordOne at h
        have h2 := runL_le nameB (c :: l)
        split at h
        · split at h
          · cases h
          · cases h; simp
        · split at h
          · cases h; exact ⟨h2, by decide⟩
          · split at h
            · cases h; simp
            · cases h
      · split at h
        · unfold numOne at h
          split at h
          · cases h; simp
          · split at h
            · cases h; simp
            · split at h
              · cases h; simp
              · cases h
        · unfold signOne at h
          split at h
          · cases h
          · split at h
            · cases h
            · cases h; simp
end Go.Proofs.YtjgkeillmelkoaaGreat.Dt
namespace Go.Proofs.YtjgkeillmelkoaaGreat.Dt
open Go.Lib

abbrev TR := (Nat × Nat) ⊕ List Tk
theorem toksN_succ (f b : Nat) (l : List UInt8) : toksN (f + 1) b l = if l.drop (skipL l) = [] then .inr []
    else match oneL (l.drop (skipL l)) with
      | .bad e m => .inl (e, b + skipL l + m)
      | .tok k s n m =>
        if k ≠ 6 ∧ wordB (topB ((l.drop (skipL l)).drop m)) then .inl (6, b + skipL l + m)
        else match toksN f (b + skipL l + m) ((l.drop (skipL l)).drop m) with
          | .inl e => .inl e
          | .inr t => .inr (⟨k, ⟨s.toArray⟩, n, ((b + skipL l : Nat) : Int)⟩ :: t) := rfl
theorem toksN_more : ∀ (f g b : Nat) (l : List UInt8), l.length < f → l.length < g → toksN f b l = toksN g b l
  | 0, _, _, _, h, _ => absurd h (by omega)
  | _ + 1, 0, _, _, _, h => absurd h (by omega)
  | f + 1, g + 1, b, l, h1, h2 => by
    rw [toksN_succ, toksN_succ]
    by_cases hn : l.drop (skipL l) = []
    · rw [if_pos hn, if_pos hn]
    · rw [if_neg hn, if_neg hn]
      cases ho : oneL (l.drop (skipL l)) with
      | bad e m => rfl
      | tok k s n m =>
        have := one_len hn ho
        have h3 := skip_le _ l (Nat.le_refl _)
        simp only
        rw [toksN_more f g _ _ (by simp only [List.length_drop] at this ⊢; omega) (by simp only [List.length_drop] at this ⊢; omega)]
def tk (b : Nat) (l : List UInt8) : TR := toksN (l.length + 1) b l
/-- What one token makes of those behind it. -/
def stepT (b : Nat) (l : List UInt8) (rest : Nat → List UInt8 → TR) : TR :=
  match oneL l with
  | .bad e m => .inl (e, b + m)
  | .tok k s n m =>
    if k ≠ 6 ∧ wordB (topB (l.drop m)) then .inl (6, b + m)
    else match rest (b + m) (l.drop m) with
      | .inl e => .inl e
      | .inr t => .inr (⟨k, ⟨s.toArray⟩, n, (b : Int)⟩ :: t)
theorem tk_eq (b : Nat) (l : List UInt8) : tk b l = if l.drop (skipL l) = [] then .inr [] else stepT (b + skipL l) (l.drop (skipL l)) tk := by
  unfold tk
  rw [toksN_succ]
  by_cases hn : l.drop (skipL l) = []
  · rw [if_pos hn, if_pos hn]
  · rw [if_neg hn, if_neg hn]
    unfold stepT
    cases ho : oneL (l.drop (skipL l)) with
    | bad e m => rfl
    | tok k s n m =>
      have := one_len hn ho
      have h3 := skip_le _ l (Nat.le_refl _)
      simp only
      rw [toksN_more l.length (((l.drop (skipL l)).drop m).length + 1) _ _ (by simp only [List.length_drop] at this ⊢; omega) (by omega)]
      rfl
theorem tk_skip (b : Nat) (l : List UInt8) : tk b l = tk (b + skipL l) (l.drop (skipL l)) := by
  rw [tk_eq, tk_eq (b + skipL l), skip_idem, Nat.add_zero, List.drop_zero]
theorem tk_nil (b : Nat) : tk b [] = .inr [] := rfl
theorem tk_step {b : Nat} {l : List UInt8} (hl : l ≠ []) (hs : skipL l = 0) : tk b l = stepT b l tk := by
  rw [tk_eq, hs, Nat.add_zero, List.drop_zero, if_neg hl]
theorem toksL_eq (l : List UInt8) : toksL l = if 4096 < l.length then .inl (3, 4096) else tk 0 l := rfl

/-- A token as it is written. -/
def textT (t : Tk) : List UInt8 :=
  if t.k = 1 ∨ t.k = 2 ∨ t.k = 6 then t.s.data.toList
  else if t.k = 3 then decDigits t.n
  else if t.k = 4 then 39 :: (quoteL t.s.data.toList ++ [39])
  else if t.k = 5 then 120 :: 39 :: (hexL t.s.data.toList ++ [39])
  else []
theorem textT_w {t : Tk} (h : t.k = 1 ∨ t.k = 2 ∨ t.k = 6) : textT t = t.s.data.toList := by unfold textT; rw [if_pos h]
theorem textT_3 {t : Tk} (h : t.k = 3) : textT t = decDigits t.n := by unfold textT; rw [if_neg (by omega), if_pos h]
theorem textT_4 {t : Tk} (h : t.k = 4) : textT t = 39 :: (quoteL t.s.data.toList ++ [39]) := by unfold textT; rw [if_neg (by omega), if_neg (by omega), if_pos h]
theorem textT_5 {t : Tk} (h : t.k = 5) : textT t = 120 :: 39 :: (hexL t.s.data.toList ++ [39]) := by unfold textT; rw [if_neg (by omega), if_neg (by omega), if_neg (by omega), if_pos h]
theorem textT_0 {t : Tk} (h : t.k = 0 ∨ 6 < t.k) : textT t = [] := by unfold textT; rw [if_neg (by omega), if_neg (by omega), if_neg (by omega), if_neg (by omega)]
/-- May a token be? -/
def okT (t : Tk) : Prop := textT t ≠ [] ∧ t.s.size ≤ 1000 ∧ oneL (textT t) = .tok t.k t.s.data.toList t.n (textT t).length
def joinL : List (List UInt8) → List UInt8
  | [] => []
  | [x] => x
  | x :: y :: l => x ++ 32 :: joinL (y :: l)
end Go.Proofs.YtjgkeillmelkoaaGreat.Dt
namespace Go.Proofs.YtjgkeillmelkoaaGreat.Dt
open Go.Lib

def sameT (x y : Tk) : Prop := x.k = y.k ∧ x.s = y.s ∧ x.n = y.n
end Go.Proofs.YtjgkeillmelkoaaGreat.Dt
namespace Go.Proofs.YtjgkeillmelkoaaGreat.Dt
open Go.Lib

theorem quote_scan : ∀ (s : List UInt8), qscan (quoteL s ++ [39]) = some (s, (quoteL s).length + 1)
  | [] => rfl
  | c :: s => by
    have ih := quote_scan s
    unfold quoteL
    by_cases hc : c = 39
    · subst hc
      rw [if_pos rfl]
      show qscan (39 :: 39 :: (quoteL s ++ [39])) = _
      unfold qscan
      rw [if_pos rfl, if_pos rfl, ih]
      rfl
    · rw [if_neg hc]
      obtain ⟨d, r, hr⟩ : ∃ d r, quoteL s ++ [39] = d :: r := by cases h : quoteL s with | nil => exact ⟨39, [], rfl⟩ | cons d r => exact ⟨d, r ++ [39], rfl⟩
      show qscan (c :: (quoteL s ++ [39])) = _
      rw [hr]
      unfold qscan
      rw [if_neg hc, ← hr, ih]
      rfl
theorem hex_ne (n : Nat) (h : n < 16) : hexC n ≠ 39 := by
  have : ∀ k : Fin 16, hexC k.val ≠ 39 := by decide +kernel
  exact this ⟨n, h⟩
theorem hex_scan : ∀ (s : List UInt8), bscan (hexL s ++ [39]) = .inr (s, (hexL s).length + 1)
  | [] => rfl
  | c :: s => by
    have ih := hex_scan s
    have h1 : c.toNat / 16 < 16 := by have := c.toNat_lt; omega
    have h2 : c.toNat % 16 < 16 := by omega
    show bscan (hexC (c.toNat / 16) :: hexC (c.toNat % 16) :: (hexL s ++ [39])) = _
    unfold bscan
    rw [if_neg (hex_ne _ h1), hexV_hexC _ h1, hexV_hexC _ h2]
    simp only [ih]
    have e : UInt8.ofNat (16 * (c.toNat / 16) + c.toNat % 16) = c := by rw [Nat.div_add_mod, UInt8.ofNat_toNat]
    rw [e]
    rfl
theorem runL_full {p : UInt8 → Bool} {l : List UInt8} (h : ∀ c ∈ l, p c = true) : runL p l = l.length := by
  have := runL_app (m := []) h
  rw [List.append_nil] at this
  rw [this]; rfl
theorem drop_full (l : List UInt8) : topB (l.drop l.length) = 0 := by rw [List.drop_length]; rfl
theorem take_len_le {l : List UInt8} {n : Nat} (h : n ≤ l.length) : (l.take n).length = n := by rw [List.length_take]; omega
theorem topB_take {l : List UInt8} {n : Nat} (h : 0 < n) : topB (l.take n) = topB l := by
  cases l with
  | nil => simp
  | cons c l => cases n with | zero => omega | succ n => rfl
theorem decV_digits : ∀ (l : List UInt8) (acc n : Nat), decV acc l = some n → ∀ c ∈ l, digB c = true
  | [], _, _, _, c, h => by simp at h
  | d :: l, acc, n, h, c, hc => by
    unfold decV at h
    split at h
    · rename_i hd
      rcases List.mem_cons.1 hc with rfl | hc
      · unfold digB; exact decide_eq_true hd
      · exact decV_digits l _ n h c hc
    · cases h
/-- A token that was read is one that may be written. -/
theorem one_ok {l : List UInt8} (hl : l ≠ []) {k n m : Nat} {s : List UInt8} (h : oneL l = .tok k s n m) (a : Int) : okT ⟨k, ⟨s.toArray⟩, n, a⟩ ∧ n ≤ 9223372036854775808 ∧ 1 ≤ k ∧ k ≤ 6 := by
  have hsz : (⟨s.toArray⟩ : ByteArray).size = s.length := rfl
  have hsl : (⟨s.toArray⟩ : ByteArray).data.toList = s := rfl
  unfold oneL at h
  split at h
  · unfold textOne at h
    split at h
    · cases h
    · split at h
      · cases h
      · rename_i t m' hq hlen
        cases h
        have e : textT ⟨4, ⟨s.toArray⟩, 0, a⟩ = 39 :: (quoteL s ++ [39]) := textT_4 rfl
        refine ⟨⟨by rw [e]; simp, by show s.length ≤ 1000; omega, ?_⟩, by decide, by decide, by decide⟩
        rw [e]
        unfold oneL
        rw [if_pos (show topB (39 :: _) = 39 from rfl)]
        unfold textOne
        rw [List.drop_succ_cons, List.drop_zero, quote_scan]
        simp only
        rw [if_neg hlen]
        simp
  · split at h
    · unfold blobOne at h
      split at h
      · cases h
      · split at h
        · cases h
        · rename_i t m' hq hlen
          cases h
          have e : textT ⟨5, ⟨s.toArray⟩, 0, a⟩ = 120 :: 39 :: (hexL s ++ [39]) := textT_5 rfl
          refine ⟨⟨by rw [e]; simp, by show s.length ≤ 1000; omega, ?_⟩, by decide, by decide, by decide⟩
          rw [e]
          unfold oneL
          rw [if_neg (show ¬ topB (120 :: _) = 39 by simp [topB]), if_pos ⟨rfl, rfl⟩]
          unfold blobOne
          rw [List.drop_succ_cons, List.drop_succ_cons, List.drop_zero, hex_scan]
          simp only
          rw [if_neg hlen]
          simp
    · split at h
      · rename_i h39 h120 hc
        unfold wordOne at h
        obtain ⟨c, l, rfl⟩ : ∃ c l', l = c :: l' := by cases l with | nil => exact absurd rfl hl | cons c l => exact ⟨c, l, rfl⟩
        have hc' : (smallB c || capB c) = true := hc
        have h39' : c ≠ 39 := h39
        split at h
        · rename_i hcap
          have hcap' : capB c = true := hcap
          have hw : wordB c = true := by unfold wordB; rw [hcap']; simp
          have h3 : 0 < runL wordB (c :: l) := by rw [runL_pos hw]; omega
          split at h
          · rename_i hmem
            cases h
            have htop : topB ((c :: l).take (runL wordB (c :: l))) = c := topB_take h3
            have hlen := take_len_le (runL_le wordB (c :: l))
            have hall := runL_all (p := wordB) (c :: l)
            have hfull := runL_full hall
            generalize (c :: l).take (runL wordB (c :: l)) = t at *
            have e : textT ⟨1, ⟨t.toArray⟩, 0, a⟩ = t := textT_w (.inl rfl)
            have hw32 : ∀ x ∈ wordsL, x.length ≤ 1000 := by decide +kernel
            refine ⟨⟨by rw [e]; rintro rfl; simp at hlen; omega, by show t.length ≤ 1000; exact hw32 t hmem, ?_⟩, by decide, by decide, by decide⟩
            rw [e]
            unfold oneL
            rw [htop, if_neg h39', if_neg (fun x => by have h1 : c = 120 := x.1; rw [h1] at hcap'; exact absurd hcap' (by decide)), if_pos hc']
            unfold wordOne
            rw [htop, if_pos hcap', hfull, List.take_length, if_pos hmem]
          · cases h
        · rename_i hcap
          have hcap' : capB c = false := by simpa [topB] using hcap
          have hw : nameB c = true := by
            rw [hcap', Bool.or_false] at hc'
            unfold nameB wordB; rw [hcap', hc']; rfl
          have h3 : 0 < runL nameB (c :: l) := by rw [runL_pos hw]; omega
          split at h
          · cases h
          · split at h
            · cases h
            · rename_i h32
              cases h
              have htop : topB ((c :: l).take (runL nameB (c :: l))) = c := topB_take h3
              have hlen := take_len_le (runL_le nameB (c :: l))
              have hall := runL_all (p := nameB) (c :: l)
              have hfull := runL_full hall
              have h1t : ∀ d, topB (((c :: l).take (runL nameB (c :: l))).drop 1) = d → d ≠ 0 → nameB d = true := by
                intro d hd hd0
                rcases hx : (c :: l).take (runL nameB (c :: l)) with _ | ⟨x, _ | ⟨y, t⟩⟩
                · rw [hx] at hd; exact absurd hd.symm hd0
                · rw [hx] at hd; exact absurd hd.symm hd0
                · rw [hx] at hd hall
                  have : y = d := hd
                  rw [← this]; exact hall y (by simp)
              generalize (c :: l).take (runL nameB (c :: l)) = t at *
              have e : textT ⟨2, ⟨t.toArray⟩, 0, a⟩ = t := textT_w (.inr (.inl rfl))
              refine ⟨⟨by rw [e]; rintro rfl; simp at hlen; omega, by show t.length ≤ 1000; omega, ?_⟩, by decide, by decide, by decide⟩
              rw [e]
              unfold oneL
              rw [htop, if_neg h39', if_neg (fun x => by have h1 := h1t 39 x.2 (by decide); exact absurd h1 (by decide)), if_pos hc']
              unfold wordOne
              rw [htop, if_neg (show ¬ capB c = true by rw [hcap']; decide), hfull, drop_full, List.take_length, if_neg (by decide), if_neg (by omega)]
      · split at h
        · unfold numOne at h
          split at h
          · cases h
          · split at h
            · cases h
            · split at h
              · cases h
              · rename_i n' hd hn
                cases h
                have e : textT ⟨3, ⟨([] : List UInt8).toArray⟩, n, a⟩ = decDigits n := textT_3 rfl
                have hdd := decV_dec n
                have hne := dec_ne n
                have hall := decV_digits _ _ _ hdd
                have hfull := runL_full hall
                obtain ⟨c, hc, hc1, hc2⟩ := dec_head_digit n
                have htop : topB (decDigits n) = c := by
                  cases hx : decDigits n with
                  | nil => exact absurd hx hne
                  | cons x y => rw [hx] at hc; simpa [topB] using hc
                have hcd : digB c = true := by unfold digB; exact decide_eq_true ⟨hc1, hc2⟩
                have hcs : smallB c = false ∧ capB c = false := by
                  unfold smallB capB; exact ⟨decide_eq_false (by omega), decide_eq_false (by omega)⟩
                have hn0 : ¬ (topB (decDigits n) = 48 ∧ digB (topB ((decDigits n).drop 1)) = true) := by
                  rintro ⟨h1, h2⟩
                  rcases Nat.lt_or_ge 0 n with h3 | h3
                  · have := dec_head n h3
                    rw [hc] at this
                    rw [htop] at h1
                    exact this (by rw [h1])
                  · have h4 : n = 0 := by omega
                    subst h4
                    rw [dec_small (by omega)] at h2
                    exact absurd h2 (by decide)
                refine ⟨⟨by rw [e]; exact hne, by show (0 : Nat) ≤ 1000; omega, ?_⟩, by omega, by decide, by decide⟩
                rw [e]
                unfold oneL
                rw [htop, if_neg (by rintro rfl; exact absurd hc1 (by decide)), if_neg (fun x => by have := x.1; subst this; exact absurd hc2 (by decide)), if_neg (by rw [hcs.1, hcs.2]; decide), if_pos hcd]
                unfold numOne
                rw [if_neg hn0, hfull, List.take_length, hdd]
                simp only
                rw [if_neg hn]
        · rename_i h39 h120 hsm hdg
          unfold signOne at h
          split at h
          · rename_i ht
            cases h
            have h2 : (l.take 2).take 2 = l.take 2 := by rw [List.take_take]; rfl
            generalize l.take 2 = t at *
            have e : textT ⟨6, ⟨t.toArray⟩, 0, a⟩ = t := textT_w (.inr (.inr rfl))
            have hl2 : ∀ x ∈ twosL, x ≠ [] ∧ x.length ≤ 1000 ∧ oneL x = .tok 6 x 0 x.length := by decide +kernel
            have := hl2 t ht
            exact ⟨⟨by rw [e]; exact this.1, this.2.1, by rw [e]; exact this.2.2⟩, by decide, by decide, by decide⟩
          · split at h
            · rename_i ht
              cases h
              obtain ⟨c, l, rfl⟩ : ∃ c l', l = c :: l' := by cases l with | nil => exact absurd rfl hl | cons c l => exact ⟨c, l, rfl⟩
              have hc : c ∈ signsL := ht
              have e : textT ⟨6, ⟨((c :: l).take 1).toArray⟩, 0, a⟩ = [c] := textT_w (.inr (.inr rfl))
              have hl2 : ∀ x ∈ signsL, oneL [x] = .tok 6 [x] 0 1 := by decide +kernel
              exact ⟨⟨by rw [e]; simp, by show 1 ≤ 1000; omega, by rw [e]; exact hl2 c hc⟩, by decide, by decide, by decide⟩
            · cases h
instance (t : Tk) : Decidable (okT t) := by unfold okT; exact inferInstance
/-- Tokens as they are written, and an error. -/
def writeL (l : List Tk) : List UInt8 × Nat := if ∀ t ∈ l, okT t then (joinL (l.map textT), 0) else ([], 2)
end Go.Proofs.YtjgkeillmelkoaaGreat.Dt
namespace Go.Proofs.YtjgkeillmelkoaaGreat.Dt
open Go.Lib

/-- An expression, where it lies put aside. -/
inductive PE where
  | mk (op : Nat) (v : V) (t m : ByteArray) (n : Int) (kids : List PE)
/-- .. of no value. -/
def V00 : V := ⟨0, 0, ⟨#[]⟩⟩
def PE.val1 (v : V) : PE := .mk 1 v ⟨#[]⟩ ⟨#[]⟩ 0 []
def PE.node (op : Nat) (kids : List PE) : PE := .mk op V00 ⟨#[]⟩ ⟨#[]⟩ 0 kids
def PE.op : PE → Nat | .mk o _ _ _ _ _ => o
def PE.v : PE → V | .mk _ v _ _ _ _ => v
def PE.t : PE → ByteArray | .mk _ _ t _ _ _ => t
def PE.m : PE → ByteArray | .mk _ _ _ m _ _ => m
def PE.n : PE → Int | .mk _ _ _ _ n _ => n
def PE.kids : PE → List PE | .mk _ _ _ _ _ l => l
structure PCol where
  name : ByteArray
  ty : Nat
  nn : Bool
structure PSrc where
  table : ByteArray
  as : ByteArray
  on : List PE
/-- A statement. -/
structure PSt where
  kind : Nat := 0
  table : ByteArray := ⟨#[]⟩
  name : ByteArray := ⟨#[]⟩
  uniq : Bool := false
  cols : List PCol := []
  key : List ByteArray := []
  names : List ByteArray := []
  rows : List (List PE) := []
  sets : List (ByteArray × PE) := []
  items : List (PE × ByteArray) := []
  src : List PSrc := []
  wh : List PE := []
  group : List PE := []
  having : List PE := []
  order : List (PE × Bool) := []
  limit : Int := 0

abbrev WOR : ByteArray := ⟨#[79, 82]⟩
abbrev WAND : ByteArray := ⟨#[65, 78, 68]⟩
abbrev WNOT : ByteArray := ⟨#[78, 79, 84]⟩
abbrev WNULL : ByteArray := ⟨#[78, 85, 76, 76]⟩
abbrev WCOUNT : ByteArray := ⟨#[67, 79, 85, 78, 84]⟩
abbrev WSUM : ByteArray := ⟨#[83, 85, 77]⟩
abbrev WMIN : ByteArray := ⟨#[77, 73, 78]⟩
abbrev WMAX : ByteArray := ⟨#[77, 65, 88]⟩
abbrev WAS : ByteArray := ⟨#[65, 83]⟩
abbrev BJOIN : ByteArray := ⟨#[124, 124]⟩
abbrev BPLUS : ByteArray := ⟨#[43]⟩
abbrev BMINUS : ByteArray := ⟨#[45]⟩
abbrev BSTAR : ByteArray := ⟨#[42]⟩
abbrev BDIV : ByteArray := ⟨#[47]⟩
abbrev BMOD : ByteArray := ⟨#[37]⟩
abbrev BEQ : ByteArray := ⟨#[61]⟩
abbrev BNE : ByteArray := ⟨#[60, 62]⟩
abbrev BLT : ByteArray := ⟨#[60]⟩
abbrev BLE : ByteArray := ⟨#[60, 61]⟩
abbrev BGT : ByteArray := ⟨#[62]⟩
abbrev BGE : ByteArray := ⟨#[62, 61]⟩
abbrev BCLOSE : ByteArray := ⟨#[41]⟩
abbrev BSEMI : ByteArray := ⟨#[59]⟩
/-- How far the tokens were read, and the first error. -/
structure PS where
  k : Nat
  e : Nat
  a : Int
/-- A step of the reading: what it tells, and how far it goes. -/
abbrev Rd (α : Type) := PS → α × PS
section
variable (L : List Tk) (en : Int)
/-- The token that comes; at the end one of no kind. -/
def tokP (k : Nat) : Tk := (L[k]?).getD ⟨0, ⟨#[]⟩, 0, en⟩
end
end Go.Proofs.YtjgkeillmelkoaaGreat.Dt
