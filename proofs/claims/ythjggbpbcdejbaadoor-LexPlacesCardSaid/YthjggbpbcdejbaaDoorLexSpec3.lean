/-
  Tokens that are written are read as they were; plain laws, no program in sight.
-/
import Derived.Test.YthjggbpbcdejbaaDoorLexSpec2
namespace Go.Proofs.YthjggbpbcdejbaaDoor.Dt
open Go.Lib

theorem topB_app {l : List UInt8} (h : l ≠ []) (m : List UInt8) : topB (l ++ m) = topB l := by
  cases l with | nil => exact absurd rfl h | cons c l => rfl
theorem topB_drop_app {l : List UInt8} {n : Nat} (h : n < l.length) (m : List UInt8) : topB ((l ++ m).drop n) = topB (l.drop n) := by
  rw [List.drop_append_of_le_length (by omega)]
  exact topB_app (by intro e; have := congrArg List.length e; simp at this; omega) m
theorem blank_not {c : UInt8} (h : blankB c = true) : wordB c = false ∧ nameB c = false ∧ digB c = false ∧ capB c = false ∧ c ≠ 39 ∧ c ≠ 45 ∧ hexV c = none ∧ c ≠ 48 ∧ digB c = false := by
  have h1 : ∀ k : Fin 256, blankB (UInt8.ofNat k.val) = true → wordB (UInt8.ofNat k.val) = false ∧ nameB (UInt8.ofNat k.val) = false ∧ digB (UInt8.ofNat k.val) = false ∧ capB (UInt8.ofNat k.val) = false ∧ (UInt8.ofNat k.val) ≠ 39 ∧ (UInt8.ofNat k.val) ≠ 45 ∧ hexV (UInt8.ofNat k.val) = none ∧ (UInt8.ofNat k.val) ≠ 48 ∧ digB (UInt8.ofNat k.val) = false := by decide +kernel
  have h2 := h1 ⟨c.toNat, c.toNat_lt⟩
  simp only [UInt8.ofNat_toNat] at h2
  exact h2 h
theorem runL_stop {p : UInt8 → Bool} {c : UInt8} (h : p c = false) : ∀ (l r : List UInt8), runL p (l ++ c :: r) = runL p l
  | [], r => runL_neg h
  | d :: l, r => by
    rw [List.cons_append]
    by_cases hd : p d = true
    · rw [runL_pos hd, runL_pos hd, runL_stop h l r]
    · have hd' : p d = false := by simpa using hd
      rw [runL_neg hd', runL_neg hd']
theorem qscan_app {c : UInt8} (hc : c ≠ 39) : ∀ (f : Nat) (l r : List UInt8), l.length ≤ f → ∀ t m, qscan l = some (t, m) → qscan (l ++ c :: r) = some (t, m)
  | _, [], _, _, _, _, h => by cases h
  | _, [d], r, _, t, m, h => by
    unfold qscan at h
    split at h
    · rename_i hd
      cases h
      subst hd
      show qscan (39 :: c :: r) = _
      unfold qscan
      rw [if_pos rfl, if_neg hc]
    · cases h
  | 0, _ :: _ :: _, _, h, _, _, _ => by simp at h
  | f + 1, d :: e :: l, r, hl, t, m, h => by
    simp only [List.length_cons] at hl
    show qscan (d :: e :: (l ++ c :: r)) = _
    unfold qscan at h ⊢
    split at h
    · rename_i hd
      rw [if_pos hd]
      split at h
      · rename_i he
        rw [if_pos he]
        cases hq : qscan l with
        | none => rw [hq] at h; cases h
        | some x => rw [hq] at h; rw [qscan_app hc f l r (by omega) x.1 x.2 hq]; exact h
      · rename_i he
        rw [if_neg he]; exact h
    · rename_i hd
      rw [if_neg hd]
      cases hq : qscan (e :: l) with
      | none => rw [hq] at h; cases h
      | some x =>
        rw [hq] at h
        have := qscan_app hc f (e :: l) r (by simp only [List.length_cons]; omega) x.1 x.2 hq
        rw [List.cons_append] at this
        rw [this]; exact h
theorem bscan_app (c : UInt8) : ∀ (f : Nat) (l r : List UInt8), l.length ≤ f → ∀ t m, bscan l = .inr (t, m) → bscan (l ++ c :: r) = .inr (t, m)
  | _, [], _, _, _, _, h => by cases h
  | _, [d], r, _, t, m, h => by
    unfold bscan at h
    split at h
    · rename_i hd
      cases h
      subst hd
      show bscan (39 :: c :: r) = _
      unfold bscan
      rw [if_pos rfl]
    · split at h <;> cases h
  | 0, _ :: _ :: _, _, h, _, _, _ => by simp at h
  | f + 1, d :: e :: l, r, hl, t, m, h => by
    simp only [List.length_cons] at hl
    show bscan (d :: e :: (l ++ c :: r)) = _
    unfold bscan at h ⊢
    split at h
    · rename_i hd
      rw [if_pos hd]; exact h
    · rename_i hd
      rw [if_neg hd]
      cases ha : hexV d with
      | none => rw [ha] at h; cases h
      | some a =>
        cases hb : hexV e with
        | none => rw [ha, hb] at h; cases h
        | some b =>
          rw [ha, hb] at h
          cases hq : bscan l with
          | inl x => rw [hq] at h; cases h
          | inr x => rw [hq] at h; rw [bscan_app c f l r (by omega) x.1 x.2 hq]; exact h
/-- What ends a token: a blank behind it makes no difference. -/
theorem one_blank {u : List UInt8} (hu : u ≠ []) {k n : Nat} {s : List UInt8} (h : oneL u = .tok k s n u.length) {c : UInt8} (hc : blankB c = true) (r : List UInt8) : oneL (u ++ c :: r) = .tok k s n u.length := by
  obtain ⟨cw, cn, cd, cc, c39, c45, ch, c48, _⟩ := blank_not hc
  have htop : topB (u ++ c :: r) = topB u := topB_app hu _
  have hone : u.length = 1 → topB ((u ++ c :: r).drop 1) = c := fun h1 => by
    rcases u with _ | ⟨a, _ | ⟨b, u⟩⟩
    · cases h1
    · rfl
    · simp at h1
  have htwo : 1 < u.length → topB ((u ++ c :: r).drop 1) = topB (u.drop 1) := fun h1 => topB_drop_app h1 _
  have hlen : 1 ≤ u.length := by cases u with | nil => exact absurd rfl hu | cons a u => simp
  unfold oneL at h ⊢
  rw [htop]
  by_cases h1 : topB u = 39
  · rw [if_pos h1] at h ⊢
    unfold textOne at h ⊢
    rw [List.drop_append_of_le_length hlen]
    cases hq : qscan (u.drop 1) with
    | none => rw [hq] at h; cases h
    | some x =>
      rw [hq] at h
      rw [qscan_app c39 _ _ r (Nat.le_refl _) x.1 x.2 hq]
      exact h
  · rw [if_neg h1] at h ⊢
    by_cases h2 : topB u = 120 ∧ topB (u.drop 1) = 39
    · have hl : 1 < u.length := by
        rcases Nat.lt_or_ge 1 u.length with h3 | h3
        · exact h3
        · exfalso
          have : u.drop 1 = [] := List.drop_eq_nil_iff.2 h3
          rw [this] at h2
          exact absurd h2.2 (by decide)
      rw [if_pos h2] at h
      rw [htwo hl, if_pos h2]
      unfold blobOne at h ⊢
      rw [List.drop_append_of_le_length (by omega)]
      cases hq : bscan (u.drop 2) with
      | inl x => rw [hq] at h; cases h
      | inr x =>
        rw [hq] at h
        rw [bscan_app c _ _ r (Nat.le_refl _) x.1 x.2 hq]
        exact h
    · rw [if_neg h2] at h
      have h2' : ¬ (topB u = 120 ∧ topB ((u ++ c :: r).drop 1) = 39) := by
        rcases Nat.lt_or_ge 1 u.length with h3 | h3
        · rw [htwo h3]; exact h2
        · rw [hone (by omega)]; exact fun e => c39 e.2
      rw [if_neg h2']
      by_cases h3 : (smallB (topB u) || capB (topB u)) = true
      · rw [if_pos h3] at h ⊢
        unfold wordOne at h ⊢
        rw [htop, runL_stop cw, runL_stop cn]
        by_cases h4 : capB (topB u) = true
        · rw [if_pos h4] at h ⊢
          have := runL_le wordB u
          rw [List.take_append_of_le_length this]
          exact h
        · rw [if_neg h4] at h ⊢
          have h5 := runL_le nameB u
          rw [List.take_append_of_le_length h5]
          have h6 : capB (topB ((u ++ c :: r).drop (runL nameB u))) = capB (topB (u.drop (runL nameB u))) := by
            rcases Nat.lt_or_ge (runL nameB u) u.length with h7 | h7
            · rw [topB_drop_app h7]
            · have h8 : runL nameB u = u.length := by omega
              rw [h8, List.drop_length, List.drop_left]
              exact cc
          rw [h6]; exact h
      · rw [if_neg h3] at h ⊢
        by_cases h4 : digB (topB u) = true
        · rw [if_pos h4] at h ⊢
          unfold numOne at h ⊢
          rw [htop, runL_stop cd]
          have := runL_le digB u
          rw [List.take_append_of_le_length this]
          have h5 : digB (topB ((u ++ c :: r).drop 1)) = digB (topB (u.drop 1)) := by
            rcases Nat.lt_or_ge 1 u.length with h6 | h6
            · rw [htwo h6]
            · rw [hone (by omega), List.drop_eq_nil_iff.2 h6, cd]; decide
          rw [h5]; exact h
        · rw [if_neg h4] at h ⊢
          unfold signOne at h ⊢
          rw [htop]
          rcases Nat.lt_or_ge 1 u.length with h6 | h6
          · rw [List.take_append_of_le_length (by omega), List.take_append_of_le_length (by omega)]; exact h
          · obtain ⟨a, rfl⟩ : ∃ a, u = [a] := List.length_eq_one_iff.1 (by omega)
            have h7 : ([a] ++ c :: r).take 2 = [a, c] := rfl
            have h8 : [a, c] ∉ twosL := by
              intro e
              have hc2 : c ∈ [62, 61, 124] := by
                simp [twosL] at e ⊢
                rcases e with ⟨_, e⟩ | ⟨_, e⟩ | ⟨_, e⟩ | ⟨_, e⟩ <;> simp [e]
              have : ∀ k : Fin 256, blankB (UInt8.ofNat k.val) = true → UInt8.ofNat k.val ∉ ([62, 61, 124] : List UInt8) := by decide +kernel
              have h9 := this ⟨c.toNat, c.toNat_lt⟩
              simp only [UInt8.ofNat_toNat] at h9
              exact h9 hc hc2
            rw [h7, if_neg h8]
            have h9 : ([a] : List UInt8).take 2 = [a] := rfl
            have h10 : [a] ∉ twosL := by simp [twosL]
            rw [h9, if_neg h10] at h
            exact h
theorem ne_of_blank {u : List UInt8} {k n : Nat} {s : List UInt8} (h : oneL u = .tok k s n u.length) : blankB (topB u) = false := by
  cases hb : blankB (topB u) with
  | false => rfl
  | true =>
    exfalso
    obtain ⟨hw, hn, hd, hc, h39, _⟩ := blank_not hb
    have hs : smallB (topB u) = false := by
      unfold wordB at hw; cases hs : smallB (topB u) with | false => rfl | true => rw [hs] at hw; simp at hw
    have h120 : topB u ≠ 120 := by intro e; rw [e] at hb; exact absurd hb (by decide)
    have hm : topB u ∉ signsL := by
      have : ∀ k : Fin 256, blankB (UInt8.ofNat k.val) = true → UInt8.ofNat k.val ∉ signsL := by decide +kernel
      have h9 := this ⟨(topB u).toNat, (topB u).toNat_lt⟩
      simp only [UInt8.ofNat_toNat] at h9
      exact h9 hb
    unfold oneL at h
    rw [if_neg h39, if_neg (fun e => h120 e.1), if_neg (by rw [hs, hc]; decide), if_neg (by rw [hd]; decide)] at h
    unfold signOne at h
    rw [if_neg hm] at h
    split at h
    · rename_i ht
      rcases u with _ | ⟨a, _ | ⟨b, u⟩⟩
      · simp [twosL] at ht
      · simp [twosL] at ht
      · have ha : a ∈ ([60, 62, 124] : List UInt8) := by
          simp [twosL] at ht ⊢
          rcases ht with ⟨e, _⟩ | ⟨e, _⟩ | ⟨e, _⟩ | ⟨e, _⟩ <;> simp [e]
        have : ∀ k : Fin 256, blankB (UInt8.ofNat k.val) = true → UInt8.ofNat k.val ∉ ([60, 62, 124] : List UInt8) := by decide +kernel
        have h9 := this ⟨a.toNat, a.toNat_lt⟩
        simp only [UInt8.ofNat_toNat] at h9
        exact h9 hb ha
    · cases h
theorem not_dashes {u : List UInt8} {k n : Nat} {s : List UInt8} (h : oneL u = .tok k s n u.length) : ¬ dashes u := by
  rintro ⟨h1, h2⟩
  unfold oneL at h
  rw [h1] at h
  rw [if_neg (by decide), if_neg (fun e => absurd e.1 (by decide)), if_neg (by decide), if_neg (by decide)] at h
  unfold signOne at h
  rcases u with _ | ⟨a, _ | ⟨b, u⟩⟩
  · exact absurd h1 (by decide)
  · exact absurd h2 (by simp [topB])
  · have ha : a = 45 := h1
    have hb : b = 45 := h2
    subst ha hb
    rw [if_neg (by simp [twosL])] at h
    split at h
    · have := congrArg (fun x => match x with | One.tok _ _ _ m => m | One.bad _ _ => 0) h
      simp at this
    · cases h
theorem skip_tok {u : List UInt8} (_hu : u ≠ []) {k n : Nat} {s : List UInt8} (h : oneL u = .tok k s n u.length) : skipL u = 0 := skip_none (ne_of_blank h) (not_dashes h)
theorem skip_tok_blank {u : List UInt8} (hu : u ≠ []) {k n : Nat} {s : List UInt8} (h : oneL u = .tok k s n u.length) {c : UInt8} (hc : blankB c = true) (r : List UInt8) : skipL (u ++ c :: r) = 0 := by
  refine skip_none (by rw [topB_app hu]; exact ne_of_blank h) ?_
  rintro ⟨h1, h2⟩
  rw [topB_app hu] at h1
  rcases u with _ | ⟨a, _ | ⟨b, u⟩⟩
  · exact hu rfl
  · have : c = 45 := h2
    exact (blank_not hc).2.2.2.2.2.1 this
  · exact not_dashes h ⟨h1, h2⟩

/-- What is skipped, whatever stands behind it. -/
def Gap (g : List UInt8) : Prop := ∀ r, skipL (g ++ r) = g.length + skipL r
theorem gap_nil : Gap [] := fun r => by simp
theorem gap_blank {c : UInt8} (h : blankB c = true) : Gap [c] := fun r => by
  show skipL (c :: r) = _
  rw [skip_blank h]; simp only [List.length_cons, List.length_nil]; omega
theorem gap_app {g h : List UInt8} (hg : Gap g) (hh : Gap h) : Gap (g ++ h) := fun r => by
  rw [List.append_assoc, hg, hh, List.length_append]; omega
theorem gap_line {g : List UInt8} (hd : dashes g) (hl : ∀ c ∈ g, lineB c = true) : Gap (g ++ [10]) := fun r => by
  have hg : g ≠ [] := by rintro rfl; exact absurd hd.1 (by decide)
  have hr : runL lineB (g ++ [10] ++ r) = g.length := by
    rw [List.append_assoc, runL_app hl]
    show g.length + runL lineB (10 :: r) = _
    rw [runL_neg (by decide)]; omega
  have hd2 : dashes (g ++ [10] ++ r) := by
    rw [List.append_assoc]
    refine ⟨by rw [topB_app hg]; exact hd.1, ?_⟩
    rw [topB_drop_app]
    · exact hd.2
    · rcases g with _ | ⟨a, _ | ⟨b, g⟩⟩
      · exact absurd rfl hg
      · exact absurd hd.2 (by simp [topB])
      · simp
  rw [skip_line hd2, hr]
  rw [List.append_assoc, List.drop_left]
  show g.length + skipL (10 :: r) = _
  rw [skip_blank (by decide), List.length_append, List.length_singleton]; omega
/-- The remark that the law writes. -/
def remark : List UInt8 := [32, 45, 45, 32, 105, 116, 39, 115, 10]
theorem gap_remark : Gap remark := gap_app (g := [32]) (gap_blank (by decide)) (gap_line (g := [45, 45, 32, 105, 116, 39, 115]) (by decide) (by decide))

/-- Texts behind one another, each behind its gap. -/
def glue : List (List UInt8 × Tk) → List UInt8
  | [] => []
  | x :: l => x.1 ++ (textT x.2 ++ glue l)
def sameT (x y : Tk) : Prop := x.k = y.k ∧ x.s = y.s ∧ x.n = y.n
def sameL : List Tk → List Tk → Prop
  | [], [] => True
  | x :: l, y :: m => sameT x y ∧ sameL l m
  | _, _ => False
theorem tk_glue : ∀ (l : List (List UInt8 × Tk)) (b : Nat), (∀ x ∈ l, okT x.2 ∧ Gap x.1) → (∀ x ∈ l.tail, blankB (topB x.1) = true ∧ x.1 ≠ []) → ∃ m, tk b (glue l) = .inr m ∧ sameL m (l.map (·.2))
  | [], b, _, _ => ⟨[], rfl, trivial⟩
  | x :: l, b, h1, h2 => by
    obtain ⟨⟨hne, _, ho⟩, hg⟩ := h1 x (by simp)
    obtain ⟨m, hm, hs⟩ := tk_glue l (b + x.1.length + (textT x.2).length) (fun y hy => h1 y (by simp [hy])) (fun y hy => h2 y (List.mem_of_mem_tail hy))
    have hsk : skipL (textT x.2 ++ glue l) = 0 ∧ oneL (textT x.2 ++ glue l) = .tok x.2.k x.2.s.data.toList x.2.n (textT x.2).length ∧ wordB (topB (glue l)) = false := by
      cases l with
      | nil =>
        show skipL (textT x.2 ++ []) = 0 ∧ oneL (textT x.2 ++ []) = _ ∧ _
        rw [List.append_nil]
        exact ⟨skip_tok hne ho, ho, by decide⟩
      | cons y l =>
        obtain ⟨hb, hy⟩ := h2 y (by simp)
        obtain ⟨c, g, hcg⟩ : ∃ c g, y.1 = c :: g := by cases hy' : y.1 with | nil => exact absurd hy' hy | cons c g => exact ⟨c, g, rfl⟩
        have e : glue (y :: l) = c :: (g ++ (textT y.2 ++ glue l)) := by show y.1 ++ _ = _; rw [hcg]; rfl
        rw [hcg] at hb
        have hc : blankB c = true := hb
        rw [e]
        exact ⟨skip_tok_blank hne ho hc _, one_blank hne ho hc _, (blank_not hc).1⟩
    have e : glue (x :: l) = x.1 ++ (textT x.2 ++ glue l) := rfl
    refine ⟨⟨x.2.k, ⟨x.2.s.data.toList.toArray⟩, x.2.n, ((b + x.1.length : Nat) : Int)⟩ :: m, ?_, ⟨⟨rfl, ByteArray.ext (Array.toArray_toList), rfl⟩, hs⟩⟩
    rw [e, tk_skip, hg, hsk.1, Nat.add_zero, List.drop_left, tk_step (by simp [hne]) hsk.1]
    unfold stepT
    rw [hsk.2.1]
    simp only
    rw [if_neg (by rw [List.drop_left, hsk.2.2]; simp), List.drop_left, hm]
end Go.Proofs.YthjggbpbcdejbaaDoor.Dt
