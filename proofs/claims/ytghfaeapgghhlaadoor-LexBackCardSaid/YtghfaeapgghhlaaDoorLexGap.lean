/-
  What stands between tokens makes no difference; plain laws, no program in sight.
-/
import Derived.Test.YtghfaeapgghhlaaDoorLexPlain
namespace Go.Proofs.YtghfaeapgghhlaaDoor.Dt
open Go.Lib

/-- The blank, or the remark, for which a byte stands. -/
def blankOf (c : UInt8) : List UInt8 :=
  if c.toNat % 5 = 0 then [32] else if c.toNat % 5 = 1 then [9] else if c.toNat % 5 = 2 then [10] else if c.toNat % 5 = 3 then [13] else remark
theorem blankOf_gap (c : UInt8) : Gap (blankOf c) := by
  unfold blankOf
  split
  · exact gap_blank (by decide)
  split
  · exact gap_blank (by decide)
  split
  · exact gap_blank (by decide)
  split
  · exact gap_blank (by decide)
  exact gap_remark
theorem blankOf_top (c : UInt8) : blankB (topB (blankOf c)) = true ∧ blankOf c ≠ [] := by
  unfold blankOf
  split
  · decide
  split
  · decide
  split
  · decide
  split
  · decide
  decide
theorem blankOf_len (c : UInt8) : (blankOf c).length ≤ 9 := by
  unfold blankOf
  split
  · decide
  split
  · decide
  split
  · decide
  split
  · decide
  decide
def gapL : List UInt8 → List UInt8
  | [] => []
  | c :: l => blankOf c ++ gapL l
theorem gapL_gap : ∀ l, Gap (gapL l)
  | [] => gap_nil
  | c :: l => gap_app (blankOf_gap c) (gapL_gap l)
theorem gapL_app : ∀ l m, gapL (l ++ m) = gapL l ++ gapL m
  | [], _ => rfl
  | c :: l, m => by show blankOf c ++ gapL (l ++ m) = _; rw [gapL_app l m, ← List.append_assoc]; rfl
theorem gapL_one (c : UInt8) : gapL [c] = blankOf c := List.append_nil _
theorem gapL_len : ∀ l, (gapL l).length ≤ 9 * l.length
  | [] => Nat.zero_le _
  | c :: l => by
    have h1 := blankOf_len c
    have h2 := gapL_len l
    show (blankOf c ++ gapL l).length ≤ _
    rw [List.length_append, List.length_cons]; omega
theorem gapL_top (l : List UInt8) : blankB (topB (gapL l ++ [32])) = true := by
  cases l with
  | nil => decide
  | cons c l =>
    show blankB (topB (blankOf c ++ gapL l ++ [32])) = true
    rw [List.append_assoc, topB_app (blankOf_top c).2]
    exact (blankOf_top c).1
/-- What stands ahead of the token at a place. -/
def gapAt (gs : List ByteArray) (i : Nat) : List UInt8 :=
  match gs[i]? with
  | some g => gapL g.data.toList
  | none => []
theorem gapAt_gap (gs : List ByteArray) (i : Nat) : Gap (gapAt gs i) := by
  unfold gapAt
  split
  · exact gapL_gap _
  · exact gap_nil
theorem gapAt_top (gs : List ByteArray) (i : Nat) : blankB (topB (gapAt gs i ++ [32])) = true := by
  unfold gapAt
  split
  · exact gapL_top _
  · decide
/-- The tokens from a place on, each with its gap. -/
def pairsT (gs : List ByteArray) : Nat → List Tk → List (List UInt8 × Tk)
  | _, [] => []
  | i, t :: l => (gapAt gs i ++ [32], t) :: pairsT gs (i + 1) l
theorem pairsT_snd (gs : List ByteArray) : ∀ i l, (pairsT gs i l).map (·.2) = l
  | _, [] => rfl
  | i, t :: l => by simp only [pairsT, List.map_cons, pairsT_snd gs (i + 1) l]
theorem pairsT_mem (gs : List ByteArray) : ∀ i l x, x ∈ pairsT gs i l → x.2 ∈ l ∧ ∃ k, x.1 = gapAt gs k ++ [32]
  | _, [], x, h => by simp [pairsT] at h
  | i, t :: l, x, h => by
    simp only [pairsT, List.mem_cons] at h
    rcases h with rfl | h
    · exact ⟨by simp, i, rfl⟩
    · obtain ⟨h1, h2⟩ := pairsT_mem gs (i + 1) l x h
      exact ⟨by simp [h1], h2⟩
theorem glue_app : ∀ l m, glue (l ++ m) = glue l ++ glue m
  | [], _ => rfl
  | x :: l, m => by show x.1 ++ (textT x.2 ++ glue (l ++ m)) = x.1 ++ (textT x.2 ++ glue l) ++ glue m; rw [glue_app l m]; simp
theorem pairsT_app (gs : List ByteArray) : ∀ i l m, pairsT gs i (l ++ m) = pairsT gs i l ++ pairsT gs (i + l.length) m
  | _, [], _ => rfl
  | i, t :: l, m => by
    simp only [List.cons_append, pairsT, pairsT_app gs (i + 1) l m, List.length_cons]
    rw [show i + 1 + l.length = i + (l.length + 1) by omega]
/-- One token more. -/
theorem glue_snoc (gs : List ByteArray) (l : List Tk) {i : Nat} {t : Tk} (h : l[i]? = some t) : glue (pairsT gs 0 (l.take (i + 1))) = glue (pairsT gs 0 (l.take i)) ++ gapAt gs i ++ ([32] ++ textT t) := by
  obtain ⟨hi, rfl⟩ := List.getElem?_eq_some_iff.1 h
  rw [List.take_succ_eq_append_getElem hi, pairsT_app, glue_app, List.length_take, Nat.min_eq_left (Nat.le_of_lt hi), Nat.zero_add]
  show _ ++ (gapAt gs i ++ [32] ++ (textT l[i] ++ [])) = _
  simp
theorem blanks_read (gs : List ByteArray) {l : List Tk} (h : ∀ t ∈ l, okT t) : ∃ m, tk 0 (glue (pairsT gs 0 l)) = .inr m ∧ sameL m l := by
  obtain ⟨m, h1, h2⟩ := tk_glue (pairsT gs 0 l) 0 (fun x hx => by
    obtain ⟨g1, k, g2⟩ := pairsT_mem gs 0 l x hx
    exact ⟨h _ g1, by rw [g2]; exact gap_app (gapAt_gap gs k) (gap_blank (by decide))⟩) (fun x hx => by
    obtain ⟨g1, k, g2⟩ := pairsT_mem gs 0 l x (List.mem_of_mem_tail hx)
    rw [g2]
    exact ⟨gapAt_top gs k, by simp⟩)
  rw [pairsT_snd] at h2
  exact ⟨m, h1, h2⟩
theorem textT_len {t : Tk} (hs : t.s.size ≤ 1000) (hn : t.n < 18446744073709551616) : (textT t).length ≤ 2003 := by
  unfold textT
  split
  · rw [bytes_list]; omega
  split
  · have := dec_len 20 t.n (by omega) (by omega); omega
  split
  · have := quoteL_len t.s.data.toList
    rw [bytes_list] at this
    simp only [List.length_cons, List.length_append, List.length_nil]; omega
  split
  · have := hexL_length t.s.data.toList
    rw [bytes_list] at this
    simp only [List.length_cons, List.length_append, List.length_nil]; omega
  · exact Nat.zero_le _
theorem joinL_len : ∀ (l : List (List UInt8)), (∀ x ∈ l, x.length ≤ 2003) → (joinL l).length ≤ 2004 * l.length
  | [], _ => Nat.zero_le _
  | [x], h => by
    have := h x (by simp)
    simp only [joinL, List.length_cons, List.length_nil]; omega
  | x :: y :: l, h => by
    have h1 := h x (by simp)
    have h2 := joinL_len (y :: l) (fun z hz => h z (List.mem_cons_of_mem _ hz))
    simp only [joinL, List.length_append, List.length_cons] at h2 ⊢; omega
theorem sameL_len : ∀ {m l : List Tk}, sameL m l → m.length = l.length
  | [], [], _ => rfl
  | x :: m, y :: l, h => by simp only [List.length_cons, sameL_len h.2]
  | [], _ :: _, h => by cases h
  | _ :: _, [], h => by cases h
theorem sameL_at : ∀ {m l : List Tk}, sameL m l → ∀ {i : Nat} {x y : Tk}, m[i]? = some x → l[i]? = some y → sameT x y
  | [], [], _, i, _, _, h, _ => by simp at h
  | a :: m, b :: l, h, 0, x, y, h1, h2 => by
    simp at h1 h2; subst h1 h2; exact h.1
  | a :: m, b :: l, h, i + 1, x, y, h1, h2 => by
    simp at h1 h2; exact sameL_at h.2 h1 h2
  | [], _ :: _, h, _, _, _, _, _ => by cases h
  | _ :: _, [], h, _, _, _, _, _ => by cases h
/-- What is written is read. -/
theorem back_read {l : List Tk} (h : ∀ t ∈ l, okT t) (hl : (joinL (l.map textT)).length ≤ 4096) : ∃ m, toksL (joinL (l.map textT)) = .inr m ∧ sameL m l := by
  obtain ⟨m, h1, h2⟩ := write_read h
  exact ⟨m, by rw [toksL_eq, if_neg (by omega), h1], h2⟩
theorem blanks_toks (gs : List ByteArray) {l : List Tk} (h : ∀ t ∈ l, okT t) (hl : (glue (pairsT gs 0 l)).length ≤ 4096) : ∃ m, toksL (glue (pairsT gs 0 l)) = .inr m ∧ sameL m l := by
  obtain ⟨m, h1, h2⟩ := blanks_read gs h
  exact ⟨m, by rw [toksL_eq, if_neg (by omega), h1], h2⟩
/-- What is read can be written. -/
theorem read_ok {s : List UInt8} {ts : List Tk} (h : toksL s = .inr ts) : ∀ t ∈ ts, okT t ∧ t.n ≤ 9223372036854775808 ∧ 1 ≤ t.k ∧ t.k ≤ 6 := by
  rw [toksL_eq] at h
  split at h
  · cases h
  · exact tk_ok _ 0 s (Nat.le_refl _) ts h
theorem tk_le : ∀ (f : Nat) (b : Nat) (l : List UInt8), l.length ≤ f → ∀ ts, tk b l = .inr ts → ts.length ≤ l.length := fun f b l hf ts h => by
  rcases Nat.lt_or_ge l.length ts.length with h1 | h1
  · exfalso
    have hpos : ∀ i, i < ts.length → ∀ t, ts[i]? = some t → ((b + i : Nat) : Int) ≤ t.a := by
      intro i
      induction i with
      | zero =>
        intro _ t ht
        obtain ⟨p, hp, _⟩ := tk_at f b l hf ts h 0 t ht
        rw [hp]; omega
      | succ i ih =>
        intro hi t ht
        obtain ⟨p, hp, _, hbef, _⟩ := tk_at f b l hf ts h (i + 1) t ht
        obtain ⟨u, hu⟩ : ∃ u, ts[i]? = some u := ⟨ts[i], by simp⟩
        have h2 := ih (by omega) u hu
        have h3 := hbef i u (by omega) hu
        omega
    obtain ⟨t, ht⟩ : ∃ t, ts[l.length]? = some t := ⟨ts[l.length], by simp⟩
    have h2 := hpos l.length h1 t ht
    obtain ⟨p, hp, hlt, _⟩ := tk_at f b l hf ts h l.length t ht
    omega
  · exact h1
theorem toksL_le {l : List UInt8} {ts : List Tk} (h : toksL l = .inr ts) : ts.length ≤ l.length := by
  rw [toksL_eq] at h
  split at h
  · cases h
  · exact tk_le _ 0 l (Nat.le_refl _) ts h
theorem spot_bad {s : List UInt8} {e a : Nat} (h : toksL s = .inl (e, a)) : e ≠ 0 ∧ a ≤ s.length := by
  rw [toksL_eq] at h
  split at h
  · cases h; exact ⟨by decide, by omega⟩
  · obtain ⟨_, h2, h3⟩ := tk_bad _ 0 s (Nat.le_refl _) e a h
    exact ⟨h3, by omega⟩
end Go.Proofs.YtghfaeapgghhlaaDoor.Dt
