import Derived.Test.YtmdogmpcmkfjpaaGreatDoorBk02
import Derived.Test.YtmdogmpcmkfjpaaGreatDoorBk04
namespace Go.Proofs.YtmdogmpcmkfjpaaGreatDoor.Dt
open Go.Lib

theorem one_nl {u : List UInt8} (hu : u ≠ []) {k n m : Nat} {s : List UInt8} (h : oneL u = .tok k s n m) {c : UInt8} (hc : blankB c = true) (r : List UInt8) : oneL (u ++ c :: r) = .tok k s n m := by
  obtain ⟨cw, cn, cd, cc, c39, c45, ch, c48, _⟩ := blank_not hc
  have htop : topB (u ++ c :: r) = topB u := topB_app hu _
  have hone : u.length = 1 → topB ((u ++ c :: r).drop 1) = c := fun h1 => by
    rcases u with _ | ⟨a, _ | ⟨b, u⟩⟩
    · cases h1
    · rfl
    · simp at h1
  have htwo : 1 < u.length → topB ((u ++ c :: r).drop 1) = topB (u.drop 1) := fun h1 => topB_drop_app h1 _
  have hlen : 1 ≤ u.length := by cases u with | nil => exact absurd rfl hu | cons a u => simp
  unfold oneL at h ⊢
  rw [htop]
  by_cases h1 : topB u = 39
  · rw [if_pos h1] at h ⊢
    unfold textOne at h ⊢
    rw [List.drop_append_of_le_length hlen]
    cases hq : qscan (u.drop 1) with
    | none => rw [hq] at h; cases h
    | some x =>
      rw [hq] at h
      rw [qscan_app c39 _ _ r (Nat.le_refl _) x.1 x.2 hq]
      exact h
  · rw [if_neg h1] at h ⊢
    by_cases h2 : topB u = 120 ∧ topB (u.drop 1) = 39
    · have hl : 1 < u.length := by
        rcases Nat.lt_or_ge 1 u.length with h3 | h3
        · exact h3
        · exfalso
          have : u.drop 1 = [] := List.drop_eq_nil_iff.2 h3
          rw [this] at h2
          exact absurd h2.2 (by decide)
      rw [if_pos h2] at h
      rw [htwo hl, if_pos h2]
      unfold blobOne at h ⊢
      rw [List.drop_append_of_le_length (by omega)]
      cases hq : bscan (u.drop 2) with
      | inl x => rw [hq] at h; cases h
      | inr x =>
        rw [hq] at h
        rw [bscan_app c _ _ r (Nat.le_refl _) x.1 x.2 hq]
        exact h
    · rw [if_neg h2] at h
      have h2' : ¬ (topB u = 120 ∧ topB ((u ++ c :: r).drop 1) = 39) := by
        rcases Nat.lt_or_ge 1 u.length with h3 | h3
        · rw [htwo h3]; exact h2
        · rw [hone (by omega)]; exact fun e => c39 e.2
      rw [if_neg h2']
      by_cases h3 : (smallB (topB u) || capB (topB u)) = true
      · rw [if_pos h3] at h ⊢
        unfold wordOne at h ⊢
        rw [htop, runL_stop cw, runL_stop cn]
        by_cases h4 : capB (topB u) = true
        · rw [if_pos h4] at h ⊢
          have := runL_le wordB u
          rw [List.take_append_of_le_length this]
          exact h
        · rw [if_neg h4] at h ⊢
          have h5 := runL_le nameB u
          rw [List.take_append_of_le_length h5]
          have h6 : capB (topB ((u ++ c :: r).drop (runL nameB u))) = capB (topB (u.drop (runL nameB u))) := by
            rcases Nat.lt_or_ge (runL nameB u) u.length with h7 | h7
            · rw [topB_drop_app h7]
            · have h8 : runL nameB u = u.length := by omega
              rw [h8, List.drop_length, List.drop_left]
              exact cc
          rw [h6]; exact h
      · rw [if_neg h3] at h ⊢
        by_cases h4 : digB (topB u) = true
        · rw [if_pos h4] at h ⊢
          unfold numOne at h ⊢
          rw [htop, runL_stop cd]
          have := runL_le digB u
          rw [List.take_append_of_le_length this]
          have h5 : digB (topB ((u ++ c :: r).drop 1)) = digB (topB (u.drop 1)) := by
            rcases Nat.lt_or_ge 1 u.length with h6 | h6
            · rw [htwo h6]
            · rw [hone (by omega), List.drop_eq_nil_iff.2 h6, cd]; decide
          rw [h5]; exact h
        · rw [if_neg h4] at h ⊢
          unfold signOne at h ⊢
          rw [htop]
          rcases Nat.lt_or_ge 1 u.length with h6 | h6
          · rw [List.take_append_of_le_length (by omega), List.take_append_of_le_length (by omega)]; exact h
          · obtain ⟨a, rfl⟩ : ∃ a, u = [a] := List.length_eq_one_iff.1 (by omega)
            have h7 : ([a] ++ c :: r).take 2 = [a, c] := rfl
            have h8 : [a, c] ∉ twosL := by
              intro e
              have hc2 : c ∈ [62, 61, 124] := by
                simp [twosL] at e ⊢
                rcases e with ⟨_, e⟩ | ⟨_, e⟩ | ⟨_, e⟩ | ⟨_, e⟩ <;> simp [e]
              have : ∀ k : Fin 256, blankB (UInt8.ofNat k.val) = true → UInt8.ofNat k.val ∉ ([62, 61, 124] : List UInt8) := by decide +kernel
              have h9 := this ⟨c.toNat, c.toNat_lt⟩
              simp only [UInt8.ofNat_toNat] at h9
              exact h9 hc hc2
            rw [h7, if_neg h8]
            have h9 : ([a] : List UInt8).take 2 = [a] := rfl
            have h10 : [a] ∉ twosL := by simp [twosL]
            rw [h9, if_neg h10] at h
            exact h
theorem word_nl {u : List UInt8} {m : Nat} (hm : m ≤ u.length) (r : List UInt8) : wordB (topB ((u ++ 10 :: r).drop m)) = wordB (topB (u.drop m)) := by
  rcases Nat.lt_or_ge m u.length with h | h
  · rw [topB_drop_app h]
  · obtain rfl : m = u.length := by omega
    rw [List.drop_left, List.drop_length]
    show wordB (10 : UInt8) = wordB (0 : UInt8)
    decide
theorem dashes_nl {l : List UInt8} (hl : l ≠ []) (r : List UInt8) : dashes (l ++ 10 :: r) ↔ dashes l := by
  unfold dashes
  rw [topB_app hl]
  rcases l with _ | ⟨a, _ | ⟨b, l⟩⟩
  · exact absurd rfl hl
  · constructor
    · rintro ⟨_, h⟩; exact absurd h (by show ¬ (10 : UInt8) = 45; decide)
    · rintro ⟨_, h⟩; exact absurd h (by show ¬ (0 : UInt8) = 45; decide)
  · exact Iff.rfl
theorem runL_nl_all {p : UInt8 → Bool} {l : List UInt8} (h : runL p l = l.length) (r : List UInt8) : runL p (l ++ r) = l.length + runL p r := by
  refine runL_app (fun c hc => ?_)
  have := runL_all (p := p) l c
  rw [h, List.take_length] at this
  exact this hc
theorem runL_nl_lt {p : UInt8 → Bool} : ∀ {l : List UInt8}, runL p l < l.length → ∀ r, runL p (l ++ r) = runL p l
  | [], h, _ => by simp at h
  | c :: l, h, r => by
    show runL p (c :: (l ++ r)) = _
    by_cases hc : p c = true
    · rw [runL_pos hc, runL_pos hc, runL_nl_lt (by rw [runL_pos hc] at h; simpa using h)]
    · rw [runL_neg (by simpa using hc), runL_neg (by simpa using hc)]
theorem skip_nl : ∀ (f : Nat) (l : List UInt8), l.length ≤ f → ∀ r, skipL (l ++ 10 :: r) = if skipL l = l.length then l.length + 1 + skipL r else skipL l
  | 0, l, hf, r => by
    obtain rfl : l = [] := List.eq_nil_of_length_eq_zero (by omega)
    show skipL (10 :: r) = if (0 : Nat) = 0 then 0 + 1 + skipL r else 0
    rw [if_pos rfl, skip_blank (by decide)]; omega
  | f + 1, l, hf, r => by
    have hrb := runL_le blankB l
    by_cases hall : runL blankB l = l.length
    · have hs : skipL l = l.length := by
        rw [skip_eq l, hall, List.drop_length, if_neg (by decide)]
      have hg : skipL (l ++ 10 :: r) = l.length + skipL (10 :: r) := by
        rw [skip_eq (l ++ 10 :: r), skip_eq (10 :: r), runL_nl_all hall, runL_pos (by decide)]
        rw [show (l ++ 10 :: r).drop (l.length + (runL blankB r + 1)) = (10 :: r).drop (runL blankB r + 1) by rw [List.drop_append, List.drop_eq_nil_of_le (by omega), List.nil_append]; congr 1; omega]
        split <;> omega
      rw [if_pos hs, hg, skip_blank (by decide)]; omega
    · have hlt : runL blankB l < l.length := by omega
      obtain ⟨u, hu⟩ : ∃ u, u = l.drop (runL blankB l) := ⟨_, rfl⟩
      have hne : u ≠ [] := by intro e; have := congrArg List.length hu; rw [e, List.length_drop] at this; simp at this; omega
      have hul : u.length = l.length - runL blankB l := by rw [hu, List.length_drop]
      have hdr : (l ++ 10 :: r).drop (runL blankB l) = u ++ 10 :: r := by rw [List.drop_append_of_le_length (by omega), ← hu]
      rw [skip_eq (l ++ 10 :: r), skip_eq l, runL_nl_lt hlt, hdr, ← hu]
      by_cases hd : dashes u
      · rw [if_pos ((dashes_nl hne r).2 hd), if_pos hd]
        have hll := runL_le lineB u
        have h2 := dashes_line hd
        by_cases hline : runL lineB u = u.length
        · have e1 : runL lineB (u ++ 10 :: r) = u.length := by rw [runL_nl_all hline, runL_neg (by decide)]; rfl
          rw [e1, hline, List.drop_left, List.drop_length, skip_nil, skip_blank (by decide), if_pos (by omega)]; omega
        · rw [runL_nl_lt (by omega), List.drop_append_of_le_length hll]
          have ih := skip_nl f (u.drop (runL lineB u)) (by rw [List.length_drop]; omega) r
          have hle := skip_le _ (u.drop (runL lineB u)) (Nat.le_refl _)
          rw [List.length_drop] at hle
          rw [ih, List.length_drop]
          by_cases h3 : skipL (u.drop (runL lineB u)) = u.length - runL lineB u
          · rw [if_pos h3, if_pos (by omega)]; omega
          · rw [if_neg h3, if_neg (by omega)]
      · rw [if_neg (fun h => hd ((dashes_nl hne r).1 h)), if_neg hd, if_neg (by omega)]
/-- Tokens in front of others. -/
def preT (ts : List Tk) : TR → TR
  | .inl e => .inl e
  | .inr us => .inr (ts ++ us)
theorem tk_nl : ∀ (f : Nat) (b : Nat) (l : List UInt8), l.length ≤ f → ∀ ts, tk b l = .inr ts → ∀ r, tk b (l ++ 10 :: r) = preT ts (tk (b + l.length + 1) r)
  | f, b, l, hf, ts, h, r => by
    have hsl := skip_le _ l (Nat.le_refl _)
    by_cases hall : skipL l = l.length
    · rw [tk_eq b l, hall, List.drop_length, if_pos rfl] at h
      cases h
      have hs := skip_nl l.length l (Nat.le_refl _) r
      rw [if_pos hall] at hs
      rw [tk_skip b (l ++ 10 :: r), hs, show (l ++ 10 :: r).drop (l.length + 1 + skipL r) = r.drop (skipL r) by
        rw [List.drop_append, List.drop_eq_nil_of_le (by omega), List.nil_append, show l.length + 1 + skipL r - l.length = skipL r + 1 by omega]; rfl]
      rw [tk_skip (b + l.length + 1) r, show b + (l.length + 1 + skipL r) = b + l.length + 1 + skipL r by omega]
      cases tk (b + l.length + 1 + skipL r) (r.drop (skipL r)) <;> rfl
    · obtain ⟨u, hu⟩ : ∃ u, u = l.drop (skipL l) := ⟨_, rfl⟩
      have hul : u.length = l.length - skipL l := by rw [hu, List.length_drop]
      have hne : u ≠ [] := by intro e; rw [e] at hul; simp at hul; omega
      rw [tk_eq b l, ← hu, if_neg hne] at h
      have hs := skip_nl l.length l (Nat.le_refl _) r
      rw [if_neg hall] at hs
      rw [tk_eq b (l ++ 10 :: r), hs, List.drop_append_of_le_length hsl, ← hu, if_neg (by simp)]
      unfold stepT at h ⊢
      cases ho : oneL u with
      | bad e m => rw [ho] at h; cases h
      | tok k s n m =>
        rw [ho] at h
        rw [one_nl hne ho (by decide) r]
        simp only at h ⊢
        have hm := one_len hne ho
        rw [word_nl hm.2.1]
        split at h
        · cases h
        · rename_i hw
          rw [if_neg hw, List.drop_append_of_le_length hm.2.1]
          cases ht : tk (b + skipL l + m) (u.drop m) with
          | inl e => rw [ht] at h; cases h
          | inr us =>
            rw [ht] at h
            cases h
            match f, hf with
            | f + 1, hf =>
              have ih := tk_nl f (b + skipL l + m) (u.drop m) (by rw [List.length_drop]; omega) us ht r
              rw [ih, List.length_drop, show b + skipL l + m + (u.length - m) + 1 = b + l.length + 1 by omega]
              cases tk (b + l.length + 1) r <;> rfl
            | 0, hf => omega
end Go.Proofs.YtmdogmpcmkfjpaaGreatDoor.Dt
namespace Go.Proofs.YtmdogmpcmkfjpaaGreatDoor.Dt
open Go.Lib
set_option linter.unusedVariables false

def OPT : Tk := ⟨6, BOPEN, 0, 0⟩
def CLT : Tk := ⟨6, BCLOSE, 0, 0⟩
section
variable {K : List Tk} {en : Int}
theorem dull_isM {s : PS} (h : Dull (tokP K en s.k)) {t : ByteArray} (h1 : t ≠ BSEMI) (h2 : t ≠ BCLOSE) : isM K en t s = (false, s) := by
  have hb : isB K en t s = false := by
    rw [Bool.eq_false_iff]
    intro hc
    exact h.text h1 h2 (isB_iff.1 hc).2
  unfold isM; rw [hb]; rfl
theorem no_isM {s : PS} {t : ByteArray} (h : (tokP K en s.k).s ≠ t) : isM K en t s = (false, s) := by
  have hb : isB K en t s = false := by
    rw [Bool.eq_false_iff]
    intro hc
    exact h (isB_iff.1 hc).2.2
  unfold isM; rw [hb]; rfl
theorem yes_isM {s : PS} {t : ByteArray} (he : s.e = 0) (hk : (tokP K en s.k).k = 6) (h : (tokP K en s.k).s = t) : isM K en t s = (true, s.next) := by
  have hb : isB K en t s = true := isB_iff.2 ⟨he, .inr hk, h⟩
  unfold isM; rw [hb]; rfl
theorem bnd_of {α β : Type} {p : Rd α} {q : α → Rd β} {s s1 : PS} {x : α} (h : p s = (x, s1)) : bnd p q s = q x s1 := by
  show q (p s).1 (p s).2 = _
  rw [h]
theorem dull_oneOf {s : PS} (h : Dull (tokP K en s.k)) : ∀ (l : List (ByteArray × Nat)), (∀ x ∈ l, x.1 ≠ BSEMI ∧ x.1 ≠ BCLOSE) → oneOf K en l s = (none, s)
  | [], _ => rfl
  | x :: l, hl => by
    show bnd (isM K en x.1) _ s = _
    rw [bnd_of (dull_isM h (hl x (by simp)).1 (hl x (by simp)).2)]
    exact dull_oneOf h l (fun y hy => hl y (by simp [hy]))
theorem dull_chain {ops : List (ByteArray × Nat)} (ho : ∀ x ∈ ops, x.1 ≠ BSEMI ∧ x.1 ≠ BCLOSE) {one : Rd PE} {f : Nat} {s s1 : PS} {x : PE} (h : one s = (x, s1)) (hd : Dull (tokP K en s1.k)) : chainL K en ops one (f + 1) s = (x, s1) := by
  show bnd one _ s = _
  rw [bnd_of h]
  show bnd (oneOf K en ops) _ s1 = _
  rw [bnd_of (dull_oneOf hd ops ho)]
  rfl
/-- What stands at the lowest level stands at the highest, where nothing comes behind it. -/
theorem up_expr {g : Nat} {s s1 : PS} {x : PE} (hm : (tokP K en s.k).s ≠ BMINUS) (hn : (tokP K en s.k).s ≠ WNOT) (h : exF K en g .prim s = (x, s1)) (hd : Dull (tokP K en s1.k)) : exF K en (g + 7) .expr s = (x, s1) := by
  have h1 : exF K en (g + 1) .unary s = (x, s1) := by
    show bnd (isM K en BMINUS) _ s = _
    rw [bnd_of (no_isM hm)]
    exact h
  have h2 : exF K en (g + 2) (.sum 3) s = (x, s1) := h1
  have h3 : exF K en (g + 3) (.sum 2) s = (x, s1) := dull_chain (f := g + 1) (by decide) h2 hd
  have h4 : exF K en (g + 4) (.sum 1) s = (x, s1) := dull_chain (f := g + 2) (by decide) h3 hd
  have h5 : exF K en (g + 5) (.sum 0) s = (x, s1) := dull_chain (f := g + 3) (by decide) h4 hd
  have h6 : exF K en (g + 6) .not s = (x, s1) := by
    show bnd (isM K en WNOT) _ s = _
    rw [bnd_of (no_isM hn)]
    simp only [Bool.false_eq_true, if_false]
    rw [bnd_of h5, bnd_of (dull_isM hd (by decide) (by decide))]
    simp only [Bool.false_eq_true, if_false]
    rw [bnd_of (dull_oneOf hd cmps (by decide))]
    rfl
  exact dull_chain (f := g + 5) (by decide) (dull_chain (f := g + 5) (by decide) h6 hd) hd
/-- One pair of brackets. -/
theorem brack_one {g : Nat} {p : Nat} {a : Int} {x : PE} {s1 : PS} (ho : sameT (tokP K en p) OPT) (h : exF K en g .expr ⟨p + 1, 0, a⟩ = (x, s1)) (he : s1.e = 0) (hc : sameT (tokP K en s1.k) CLT) (hd : Dull (tokP K en (s1.k + 1))) :
    exF K en (g + 8) .expr ⟨p, 0, a⟩ = (x, s1.next) := by
  have hk : (tokP K en p).k = 6 := ho.1
  have hs : (tokP K en p).s = BOPEN := ho.2.1
  refine up_expr (s := ⟨p, 0, a⟩) (by rw [hs]; decide) (by rw [hs]; decide) ?_ hd
  show bnd (litM K en) _ ⟨p, 0, a⟩ = _
  have hl : litM K en ⟨p, 0, a⟩ = (none, ⟨p, 0, a⟩) := by
    unfold litM
    simp only [ne_eq, not_true_eq_false, if_false]
    rw [if_neg (by rw [hk]; decide), if_neg (by rw [hk]; decide), if_neg (by rw [hk]; decide)]
  rw [bnd_of hl]
  have hq : nameQ K en ⟨p, 0, a⟩ = (none, ⟨p, 0, a⟩) := by
    unfold nameQ
    rw [if_neg (fun h => by have := h.2; rw [hk] at this; omega)]
  show bnd (nameQ K en) _ ⟨p, 0, a⟩ = _
  rw [bnd_of hq]
  show bnd (isM K en WNULL) _ ⟨p, 0, a⟩ = _
  rw [bnd_of (no_isM (s := ⟨p, 0, a⟩) (by rw [hs]; decide))]
  simp only [Bool.false_eq_true, if_false]
  rw [bnd_of (yes_isM (s := ⟨p, 0, a⟩) rfl hk hs)]
  simp only [if_true]
  rw [bnd_of (s1 := s1) h]
  have hmu : mustM K en [BCLOSE] s1 = ((), s1.next) := by
    show bnd (isM K en BCLOSE) _ s1 = _
    rw [bnd_of (yes_isM (t := BCLOSE) he hc.1 hc.2.1)]
    rfl
  rw [bnd_of hmu]
  rfl
end
/-- An expression within brackets. -/
theorem brack_run {L K : List Tk} {en en' : Int} {x : PE} {s1 : PS} (hL : exprM L en ⟨0, 0, 0⟩ = (x, s1)) (he : s1.e = 0) (hk : s1.k = L.length) (hK : K.length ≤ 8000) :
    ∀ (j f p : Nat) (a : Int), (∀ i, i < j → sameT (tokP K en' (p + i)) OPT) → (∀ i, i < L.length → sameT (tokP L en i) (tokP K en' (p + j + i))) → (∀ i, i < j → sameT (tokP K en' (p + j + L.length + i)) CLT) →
      Dull (tokP K en' (p + j + L.length + j)) → p + j + L.length + j ≤ K.length → 9 * (K.length - p) + 8 ≤ f → ∃ b, exF K en' f .expr ⟨p, 0, a⟩ = (x, ⟨p + j + L.length + j, 0, b⟩)
  | 0, f, p, a, _, h2, _, hd, hlen, hf => by
    have hsim := (Sim.exF (L := L) (L' := K) (en := en) (en' := en') (d := p) FU .expr).go ⟨0, 0, 0⟩ ⟨p, 0, a⟩ (by simp) rfl rfl (by rw [show exF L en FU .expr ⟨0, 0, 0⟩ = (x, s1) from hL]; exact he)
      (by
        rw [show exF L en FU .expr ⟨0, 0, 0⟩ = (x, s1) from hL]
        intro i _ hi
        have := h2 i (by rw [← hk]; exact hi)
        rwa [show p + 0 + i = i + p by omega] at this)
      (by
        rw [show exF L en FU .expr ⟨0, 0, 0⟩ = (x, s1) from hL]
        refine .inr ⟨.inl (tokP_end (by show ¬ s1.k < _; omega)), ?_⟩
        show Dull (tokP K en' (s1.k + p))
        rwa [hk, show L.length + p = p + 0 + L.length + 0 by omega])
    rw [show exF L en FU .expr ⟨0, 0, 0⟩ = (x, s1) from hL] at hsim
    have hfu := ex_fuel (L := K) (en := en') f FU .expr ⟨p, 0, a⟩ (by show p ≤ _; omega) (by show 9 * (K.length - p) + 8 ≤ f; omega) (by show 9 * (K.length - p) + 8 ≤ 100000; omega) (fun k h => by cases h)
    rw [hfu]
    obtain ⟨g1, g2, g3⟩ := hsim
    generalize exF K en' FU .expr ⟨p, 0, a⟩ = r at *
    obtain ⟨y, k, e, b⟩ := r
    simp only at g1 g2 g3
    refine ⟨b, ?_⟩
    rw [g1, g2, g3, hk, show L.length + p = p + 0 + L.length + 0 by omega]
  | j + 1, f, p, a, h1, h2, h3, hd, hlen, hf => by
    obtain ⟨g, rfl⟩ : ∃ g, f = g + 8 := ⟨f - 8, by omega⟩
    obtain ⟨b, ih⟩ := brack_run hL he hk hK j g (p + 1) a (fun i hi => by have := h1 (i + 1) (by omega); rwa [show p + (i + 1) = p + 1 + i by omega] at this)
      (fun i hi => by have := h2 i hi; rwa [show p + (j + 1) + i = p + 1 + j + i by omega] at this)
      (fun i hi => by have := h3 i (by omega); rwa [show p + (j + 1) + L.length + i = p + 1 + j + L.length + i by omega] at this)
      (by
        have := h3 j (by omega)
        rw [show p + (j + 1) + L.length + j = p + 1 + j + L.length + j by omega] at this
        exact .inr ⟨this.1, .inr this.2.1⟩)
      (by omega) (by omega)
    refine ⟨b, ?_⟩
    have hc := h3 j (by omega)
    rw [show p + (j + 1) + L.length + j = p + 1 + j + L.length + j by omega] at hc
    have h0 := h1 0 (by omega)
    rw [Nat.add_zero] at h0
    have := brack_one (K := K) (en := en') h0 ih rfl hc (by rw [show p + 1 + j + L.length + j + 1 = p + (j + 1) + L.length + (j + 1) by omega]; exact hd)
    rw [this, show p + (j + 1) + L.length + (j + 1) = p + 1 + j + L.length + j + 1 by omega]
end Go.Proofs.YtmdogmpcmkfjpaaGreatDoor.Dt
namespace Go.Proofs.YtmdogmpcmkfjpaaGreatDoor.Dt
open Go.Lib
set_option linter.unusedVariables false

theorem sameT_symm {x y : Tk} (h : sameT x y) : sameT y x := ⟨h.1.symm, h.2.1.symm, h.2.2.symm⟩
theorem sameT_trans {x y z : Tk} (h : sameT x y) (g : sameT y z) : sameT x z := ⟨h.1.trans g.1, h.2.1.trans g.2.1, h.2.2.trans g.2.2⟩
theorem sameL_app : ∀ {a b c d : List Tk}, sameL a b → sameL c d → sameL (a ++ c) (b ++ d)
  | [], [], _, _, _, h => h
  | x :: a, y :: b, _, _, h, g => ⟨h.1, sameL_app h.2 g⟩
  | [], _ :: _, _, _, h, _ => by cases h
  | _ :: _, [], _, _, h, _ => by cases h
theorem sameL_length : ∀ {m l : List Tk}, sameL m l → m.length = l.length
  | [], [], _ => rfl
  | x :: m, y :: l, h => by simp only [List.length_cons, sameL_length h.2]
  | [], _ :: _, h => by cases h
  | _ :: _, [], h => by cases h
theorem sameL_map (i : Int) : ∀ l : List Tk, sameL (l.map fun x => { x with a := x.a + i }) l
  | [] => trivial
  | x :: l => ⟨⟨rfl, rfl, rfl⟩, sameL_map i l⟩
theorem sameL_tok {m l : List Tk} (h : sameL m l) (e e' : Int) (i : Nat) : sameT (tokP m e i) (tokP l e' i) := by
  induction m generalizing l i with
  | nil =>
    cases l with
    | nil => exact ⟨rfl, rfl, rfl⟩
    | cons y l => cases h
  | cons x m ih =>
    cases l with
    | nil => cases h
    | cons y l =>
      cases i with
      | zero => exact h.1
      | succ i => exact ih h.2 i
theorem tok_left {a b : List Tk} {e e' : Int} {i : Nat} (h : i < a.length) : sameT (tokP (a ++ b) e i) (tokP a e' i) := by
  unfold tokP
  rw [List.getElem?_append_left h, List.getElem?_eq_getElem h]
  exact ⟨rfl, rfl, rfl⟩
theorem tok_right {a b : List Tk} {e : Int} (i : Nat) : tokP (a ++ b) e (a.length + i) = tokP b e i := by
  unfold tokP
  rw [List.getElem?_append_right (by omega), show a.length + i - a.length = i by omega]
theorem tok_rep {n : Nat} {x : Tk} {e : Int} {i : Nat} (h : i < n) : tokP (List.replicate n x) e i = x := by
  unfold tokP
  rw [List.getElem?_replicate, if_pos h]; rfl
theorem one_paren {c : UInt8} (hc : c = 40 ∨ c = 41) (Y : List UInt8) : oneL (c :: Y) = .tok 6 [c] 0 1 := by
  unfold oneL signOne
  have h2 : (c :: Y).take 2 ∉ twosL := by
    intro e
    show False
    rcases hc with rfl | rfl <;> simp [twosL] at e
  rcases hc with rfl | rfl
  · rw [if_neg (by show ¬ (40 : UInt8) = 39; decide), if_neg (by show ¬ ((40 : UInt8) = 120 ∧ _); intro h; exact absurd h.1 (by decide)), if_neg (by show ¬ (smallB 40 || capB 40) = true; decide), if_neg (by show ¬ digB 40 = true; decide), if_neg h2, if_pos (by show (40 : UInt8) ∈ signsL; decide)]; rfl
  · rw [if_neg (by show ¬ (41 : UInt8) = 39; decide), if_neg (by show ¬ ((41 : UInt8) = 120 ∧ _); intro h; exact absurd h.1 (by decide)), if_neg (by show ¬ (smallB 41 || capB 41) = true; decide), if_neg (by show ¬ digB 41 = true; decide), if_neg h2, if_pos (by show (41 : UInt8) ∈ signsL; decide)]; rfl
theorem skip_paren {c : UInt8} (hc : c = 40 ∨ c = 41) (Y : List UInt8) : skipL (c :: Y) = 0 := by
  refine skip_none ?_ ?_
  · rcases hc with rfl | rfl
    · show blankB 40 = false; decide
    · show blankB 41 = false; decide
  · intro h
    have h1 : c = 45 := h.1
    rcases hc with rfl | rfl <;> exact absurd h1 (by decide)
theorem tk_paren {c : UInt8} (hc : c = 40 ∨ c = 41) (b : Nat) (Y : List UInt8) : tk b (c :: Y) = preT [⟨6, ⟨#[c]⟩, 0, (b : Int)⟩] (tk (b + 1) Y) := by
  rw [tk_step (by simp) (skip_paren hc Y)]
  unfold stepT
  rw [one_paren hc Y]
  simp only
  rw [if_neg (fun h => h.1 rfl)]
  rw [show (c :: Y).drop 1 = Y from rfl]
  cases tk (b + 1) Y <;> rfl
theorem tk_parens {c : UInt8} (hc : c = 40 ∨ c = 41) : ∀ (j b : Nat) (Y : List UInt8), ∃ P, sameL P (List.replicate j ⟨6, ⟨#[c]⟩, 0, 0⟩) ∧ tk b (List.replicate j c ++ Y) = preT P (tk (b + j) Y)
  | 0, b, Y => ⟨[], trivial, by show tk b Y = preT [] (tk b Y); cases tk b Y <;> rfl⟩
  | j + 1, b, Y => by
    obtain ⟨P, h1, h2⟩ := tk_parens hc j (b + 1) Y
    refine ⟨⟨6, ⟨#[c]⟩, 0, (b : Int)⟩ :: P, ⟨⟨rfl, rfl, rfl⟩, h1⟩, ?_⟩
    rw [List.replicate_succ, List.cons_append, tk_paren hc, h2, show b + 1 + j = b + (j + 1) by omega]
    cases tk (b + (j + 1)) Y <;> rfl
/-- The text within so many brackets. -/
def brackT (j : Nat) (s : List UInt8) : List UInt8 := List.replicate j 40 ++ (s ++ 10 :: List.replicate j 41)
theorem brackT_succ (j : Nat) (s : List UInt8) : brackT (j + 1) s = 40 :: (brackT j s ++ [41]) := by
  unfold brackT
  rw [List.replicate_succ, List.replicate_succ', List.cons_append]
  simp
theorem brack_toks {s : List UInt8} {L : List Tk} (h : tk 0 s = .inr L) (j : Nat) : ∃ M, tk 0 (brackT j s) = .inr M ∧ sameL M (List.replicate j OPT ++ (L ++ List.replicate j CLT)) := by
  obtain ⟨P, hP, eP⟩ := tk_parens (c := 40) (.inl rfl) j 0 (s ++ 10 :: List.replicate j 41)
  obtain ⟨Q, hQ, eQ⟩ := tk_parens (c := 41) (.inr rfl) j (0 + j + s.length + 1) []
  have hsh := tk_shift j s.length 0 s (Nat.le_refl _)
  rw [h] at hsh
  have hn := tk_nl s.length (0 + j) s (Nat.le_refl _) _ hsh (List.replicate j 41)
  rw [List.append_nil, tk_nil] at eQ
  refine ⟨P ++ (L.map (fun x => { x with a := x.a + (j : Int) }) ++ Q), ?_, sameL_app hP (sameL_app (sameL_map _ L) hQ)⟩
  unfold brackT
  rw [eP, hn, eQ]
  show Sum.inr (P ++ (_ ++ (Q ++ []))) = _
  rw [List.append_nil]
theorem tk_le' : ∀ (f : Nat) (b : Nat) (l : List UInt8), l.length ≤ f → ∀ ts, tk b l = .inr ts → ts.length ≤ l.length := fun f b l hf ts h => by
  rcases Nat.lt_or_ge l.length ts.length with h1 | h1
  · exfalso
    have hpos : ∀ i, i < ts.length → ∀ t, ts[i]? = some t → ((b + i : Nat) : Int) ≤ t.a := by
      intro i
      induction i with
      | zero =>
        intro _ t ht
        obtain ⟨p, hp, _⟩ := tk_at f b l hf ts h 0 t ht
        rw [hp]; omega
      | succ i ih =>
        intro hi t ht
        obtain ⟨p, hp, _, hbef, _⟩ := tk_at f b l hf ts h (i + 1) t ht
        obtain ⟨u, hu⟩ : ∃ u, ts[i]? = some u := ⟨ts[i], by simp⟩
        have h2 := ih (by omega) u hu
        have h3 := hbef i u (by omega) hu
        omega
    obtain ⟨t, ht⟩ : ∃ t, ts[l.length]? = some t := ⟨ts[l.length], by simp⟩
    have h2 := hpos l.length h1 t ht
    obtain ⟨p, hp, hlt, _⟩ := tk_at f b l hf ts h l.length t ht
    omega
  · exact h1
theorem toksL_le' {s : List UInt8} {L : List Tk} (h : tk 0 s = .inr L) : L.length ≤ s.length := tk_le' _ 0 s (Nat.le_refl _) L h
theorem exprL_run {s : List UInt8} {x : PE} (h : exprL s = .inr x) : ∃ L s1, toksL s = .inr L ∧ exprM L (s.length : Int) ⟨0, 0, 0⟩ = (x, s1) ∧ s1.e = 0 ∧ s1.k = L.length := by
  unfold exprL at h
  cases ht : toksL s with
  | inl e => rw [ht] at h; cases h
  | inr L =>
    rw [ht] at h
    simp only at h
    have hle := (Sim.exprM (L := L) (L' := L) (en := (s.length : Int)) (en' := (s.length : Int)) (d := 0)).le ⟨0, 0, 0⟩ (Nat.zero_le _)
    obtain ⟨r, hr⟩ : ∃ r, r = exprM L (s.length : Int) ⟨0, 0, 0⟩ := ⟨_, rfl⟩
    rw [← hr] at h hle
    by_cases hk : r.2.k < L.length
    · rw [if_pos hk, if_neg (failP_k 6 r.2 (by decide)).2] at h
      cases h
    · rw [if_neg hk] at h
      by_cases he : r.2.e = 0
      · rw [if_pos he] at h
        cases h
        exact ⟨L, r.2, rfl, hr.symm, he, by omega⟩
      · rw [if_neg he] at h; cases h
theorem brackets {s : List UInt8} {x : PE} (h : exprL s = .inr x) (j : Nat) (hj : 2 * j + s.length + 1 ≤ 4096) : exprL (brackT j s) = .inr x := by
  obtain ⟨L, s1, ht, hr, he, hk⟩ := exprL_run h
  have htk : tk 0 s = .inr L := by rw [toksL_eq, if_neg (by omega)] at ht; exact ht
  obtain ⟨M, hM, hsM⟩ := brack_toks htk j
  have hlen : (brackT j s).length ≤ 4096 := by unfold brackT; simp; omega
  have hml := sameL_length hsM
  simp only [List.length_append, List.length_replicate] at hml
  have hln : L.length ≤ s.length := toksL_le' htk
  obtain ⟨b, hb⟩ := brack_run (K := M) (en' := ((brackT j s).length : Int)) hr he hk (by omega) j FU 0 0
    (fun i hi => by
      have h1 := sameL_tok hsM ((brackT j s).length : Int) 0 i
      have h2 := tok_left (a := List.replicate j OPT) (b := L ++ List.replicate j CLT) (e := 0) (e' := 0) (i := i) (by simpa using hi)
      rw [tok_rep hi] at h2
      rw [Nat.zero_add]
      exact sameT_trans h1 h2)
    (fun i hi => by
      have h1 := sameL_tok hsM ((brackT j s).length : Int) 0 (j + i)
      have h2 := tok_right (a := List.replicate j OPT) (b := L ++ List.replicate j CLT) (e := 0) i
      rw [List.length_replicate] at h2
      rw [h2] at h1
      have h3 := tok_left (a := L) (b := List.replicate j CLT) (e := 0) (e' := (s.length : Int)) (i := i) hi
      rw [Nat.zero_add]
      exact sameT_symm (sameT_trans h1 h3))
    (fun i hi => by
      have h1 := sameL_tok hsM ((brackT j s).length : Int) 0 (j + (L.length + i))
      have h2 := tok_right (a := List.replicate j OPT) (b := L ++ List.replicate j CLT) (e := 0) (L.length + i)
      rw [List.length_replicate, tok_right, tok_rep hi] at h2
      rw [h2] at h1
      rw [show 0 + j + L.length + i = j + (L.length + i) by omega]
      exact h1)
    (.inl (tokP_end (by omega))) (by omega) (by show 9 * (M.length - 0) + 8 ≤ 100000; omega)
  unfold exprL
  rw [toksL_eq, if_neg (by omega), hM]
  have hb' : exprM M ((brackT j s).length : Int) ⟨0, 0, 0⟩ = (x, ⟨0 + j + L.length + j, 0, b⟩) := hb
  have hlt : ¬ 0 + j + L.length + j < M.length := by omega
  simp only [hb', hlt, if_false, if_true]
end Go.Proofs.YtmdogmpcmkfjpaaGreatDoor.Dt
namespace Go.Proofs.YtmdogmpcmkfjpaaGreatDoor.Dt
open Go.Lib
set_option linter.unusedVariables false

/-- A name that a text can say. -/
def NameOk (s : ByteArray) : Prop := okT ⟨2, s, 0, 0⟩
/-- A value that a text can say. -/
def ValOk (v : V) : Prop := (v.k = 0 ∧ v.n = 0 ∧ v.s = ⟨#[]⟩) ∨ (v.k = 1 ∧ -9223372036854775808 ≤ v.n ∧ v.n < 9223372036854775808 ∧ v.s = ⟨#[]⟩) ∨ ((v.k = 2 ∨ v.k = 3) ∧ v.n = 0 ∧ v.s.size ≤ 1000)
/-- An expression that a text can say. -/
inductive ExOk : PE → Prop where
  | val (v : V) : ValOk v → ExOk (.mk 1 v ⟨#[]⟩ ⟨#[]⟩ 0 [])
  | col (m : ByteArray) : NameOk m → ExOk (.mk 2 V00 ⟨#[]⟩ m 0 [])
  | tcol (t m : ByteArray) : NameOk t → NameOk m → ExOk (.mk 2 V00 t m 0 [])
  | one (op : Nat) (x : PE) : (op = 3 ∨ op = 4 ∨ op = 5 ∨ (20 ≤ op ∧ op ≤ 23)) → ExOk x → ExOk (.node op [x])
  | two (op : Nat) (x y : PE) : 6 ≤ op → op ≤ 19 → ExOk x → ExOk y → ExOk (.node op [x, y])
  | count : ExOk (.node 20 [])
section
variable {L : List Tk} {en : Int}
/-- What a step tells, where it does not fail. -/
def Good {α : Type} (p : Rd α) (Q : α → Prop) : Prop := ∀ s : PS, (p s).2.e = 0 → Q (p s).1
/-- A step that keeps an error. -/
def Keep {α : Type} (p : Rd α) : Prop := ∀ s : PS, s.e ≠ 0 → (p s).2.e ≠ 0
theorem Good.ret {α : Type} {x : α} {Q : α → Prop} (h : Q x) : Good (ret x) Q := fun _ _ => h
theorem Good.bnd {α β : Type} {p : Rd α} {q : α → Rd β} {Q : α → Prop} {R : β → Prop} (hp : Good p Q) (hk : ∀ x, Keep (q x)) (hq : ∀ x, Q x → Good (q x) R) : Good (bnd p q) R := fun s h =>
  hq (p s).1 (hp s (Classical.byContradiction fun hn => hk (p s).1 (p s).2 hn h)) (p s).2 h
theorem Good.any {α : Type} (p : Rd α) : Good p (fun _ => True) := fun _ _ => trivial
theorem Good.fail {α : Type} {p : Rd α} (h : ∀ s : PS, (p s).2.e ≠ 0) (Q : α → Prop) : Good p Q := fun s h1 => absurd h1 (h s)
theorem Good.imp {α : Type} {p : Rd α} {Q R : α → Prop} (h : Good p Q) (hi : ∀ x, Q x → R x) : Good p R := fun s hs => hi _ (h s hs)
theorem Sim.keep {α : Type} {p p' : Rd α} (h : Sim L en L en 0 p p') : Keep p := fun s hs => (h.mono s).2 hs
theorem Keep.bnd {α β : Type} {p : Rd α} {q : α → Rd β} (hp : Keep p) (hq : ∀ x, Keep (q x)) : Keep (bnd p q) := fun s h => hq _ _ (hp s h)
theorem Keep.ret {α : Type} (x : α) : Keep (ret x) := fun _ h => h
theorem Keep.ite {α : Type} (b : Bool) {p q : Rd α} (hp : Keep p) (hq : Keep q) : Keep (if b then p else q) := by cases b <;> assumption
/-- Every token of the row is one that a text can say. -/
def AllOk (L : List Tk) : Prop := ∀ t ∈ L, okT t ∧ t.n ≤ 9223372036854775808 ∧ 1 ≤ t.k ∧ t.k ≤ 6
theorem tok_ok (h : AllOk L) {k : Nat} (hk : (tokP L en k).k ≠ 0) : okT (tokP L en k) ∧ (tokP L en k).n ≤ 9223372036854775808 := by
  have hlt := tokP_lt hk
  have : tokP L en k ∈ L := by
    unfold tokP
    rw [List.getElem?_eq_getElem hlt]
    exact List.getElem_mem hlt
  exact ⟨(h _ this).1, (h _ this).2.1⟩
theorem name_ok {t : Tk} (h : okT t) (hk : t.k = 2) : NameOk t.s := by
  have e1 : textT t = t.s.data.toList := textT_w (.inr (.inl hk))
  have e2 : textT ⟨2, t.s, 0, 0⟩ = t.s.data.toList := textT_w (t := ⟨2, t.s, 0, 0⟩) (.inr (.inl rfl))
  obtain ⟨h1, h2, h3⟩ := h
  rw [e1] at h1 h3
  unfold NameOk okT
  rw [e2]
  refine ⟨h1, h2, ?_⟩
  rw [h3, hk]
  have : t.n = 0 := by
    unfold oneL at h3
    rw [hk] at h3
    split at h3
    · unfold textOne at h3
      split at h3
      · cases h3
      · split at h3 <;> cases h3
    · split at h3
      · unfold blobOne at h3
        split at h3
        · cases h3
        · split at h3 <;> cases h3
      · split at h3
        · unfold wordOne at h3
          split at h3
          · split at h3 <;> cases h3
          · split at h3
            · cases h3
            · split at h3
              · cases h3
              · injection h3 with _ _ hn _
                exact hn.symm
        · split at h3
          · unfold numOne at h3
            split at h3
            · cases h3
            · split at h3
              · cases h3
              · split at h3 <;> cases h3
          · unfold signOne at h3
            split at h3
            · cases h3
            · split at h3 <;> cases h3
  rw [this]
theorem Good.nameM (h : AllOk L) : Good (nameM L en) NameOk := fun s hs => by
  unfold Dt.nameM at hs ⊢
  split at hs
  · rename_i hk
    rw [if_pos hk]
    exact name_ok (tok_ok h (by omega)).1 hk.2
  · exact absurd hs (failP_k 6 s (by decide)).2
theorem Good.nameQ (h : AllOk L) : Good (nameQ L en) (fun r => ∀ m, r = some m → NameOk m) := fun s hs m hm => by
  unfold Dt.nameQ at hs hm
  split at hm
  · rename_i hk
    cases hm
    exact name_ok (tok_ok h (by omega)).1 hk.2
  · cases hm
theorem Good.litM (h : AllOk L) : Good (litM L en) (fun r => ∀ x, r = some x → ExOk x) := fun s hs x hx => by
  unfold Dt.litM at hs hx
  simp only at hs hx
  by_cases he : s.e = 0
  · simp only [he, ne_eq, not_true_eq_false, if_false] at hs hx
    split at hx
    · split at hx
      · rename_i hk hn
        cases hx
        exact .val _ (.inr (.inl ⟨rfl, by show -9223372036854775808 ≤ (((tokP L en s.k).n : Nat) : Int); omega, by show (((tokP L en s.k).n : Nat) : Int) < 9223372036854775808; omega, rfl⟩))
      · rename_i hk hn
        rw [if_pos hk, if_neg hn] at hs
        exact absurd hs (failP_k 5 s (by decide)).2
    · split at hx
      · rename_i _ hk
        cases hx
        exact .val _ (.inr (.inr ⟨.inl rfl, rfl, (tok_ok h (k := s.k) (by omega)).1.2.1⟩))
      · split at hx
        · rename_i _ _ hk
          cases hx
          exact .val _ (.inr (.inr ⟨.inr rfl, rfl, (tok_ok h (k := s.k) (by omega)).1.2.1⟩))
        · cases hx
  · rw [if_pos he] at hs
    exact absurd hs he
theorem Good.negM (h : AllOk L) : Good (negM L en) (fun r => ∀ n, r = some n → n ≤ 9223372036854775808) := fun s hs n hn => by
  unfold Dt.negM at hn
  split at hn
  · rename_i hk
    cases hn
    exact (tok_ok h (by omega)).2
  · cases hn
theorem Good.oneOf (Q : Nat → Prop) : ∀ (l : List (ByteArray × Nat)), (∀ x ∈ l, Q x.2) → Good (oneOf L en l) (fun r => ∀ o, r = some o → Q o)
  | [], _ => fun s _ o h => by cases h
  | x :: l, h => Good.bnd (Good.any _) (fun b => Keep.ite b (Keep.ret _) (fun s hs => by
      rcases oneOf_cases (L := L) (en := en) l s with e | ⟨o, e, _⟩
      · rw [e]; exact hs
      · rw [e]; exact hs)) (fun b _ => by
    cases b with
    | true => exact Good.ret (fun o ho => by cases ho; exact h x (by simp))
    | false => exact Good.oneOf Q l (fun y hy => h y (by simp [hy])))
end
end Go.Proofs.YtmdogmpcmkfjpaaGreatDoor.Dt
