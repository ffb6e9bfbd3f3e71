/-
  Tokens that are read are written, and read again; plain laws, no program in sight.
-/
import Derived.Test.YthjggbpbcdejbaaDoorLexSpec3
namespace Go.Proofs.YthjggbpbcdejbaaDoor.Dt
open Go.Lib

theorem quote_scan : ∀ (s : List UInt8), qscan (quoteL s ++ [39]) = some (s, (quoteL s).length + 1)
  | [] => rfl
  | c :: s => by
    have ih := quote_scan s
    unfold quoteL
    by_cases hc : c = 39
    · subst hc
      rw [if_pos rfl]
      show qscan (39 :: 39 :: (quoteL s ++ [39])) = _
      unfold qscan
      rw [if_pos rfl, if_pos rfl, ih]
      rfl
    · rw [if_neg hc]
      obtain ⟨d, r, hr⟩ : ∃ d r, quoteL s ++ [39] = d :: r := by cases h : quoteL s with | nil => exact ⟨39, [], rfl⟩ | cons d r => exact ⟨d, r ++ [39], rfl⟩
      show qscan (c :: (quoteL s ++ [39])) = _
      rw [hr]
      unfold qscan
      rw [if_neg hc, ← hr, ih]
      rfl
theorem hex_ne (n : Nat) (h : n < 16) : hexC n ≠ 39 := by
  have : ∀ k : Fin 16, hexC k.val ≠ 39 := by decide +kernel
  exact this ⟨n, h⟩
theorem hex_scan : ∀ (s : List UInt8), bscan (hexL s ++ [39]) = .inr (s, (hexL s).length + 1)
  | [] => rfl
  | c :: s => by
    have ih := hex_scan s
    have h1 : c.toNat / 16 < 16 := by have := c.toNat_lt; omega
    have h2 : c.toNat % 16 < 16 := by omega
    show bscan (hexC (c.toNat / 16) :: hexC (c.toNat % 16) :: (hexL s ++ [39])) = _
    unfold bscan
    rw [if_neg (hex_ne _ h1), hexV_hexC _ h1, hexV_hexC _ h2]
    simp only [ih]
    have e : UInt8.ofNat (16 * (c.toNat / 16) + c.toNat % 16) = c := by rw [Nat.div_add_mod, UInt8.ofNat_toNat]
    rw [e]
    rfl
theorem runL_full {p : UInt8 → Bool} {l : List UInt8} (h : ∀ c ∈ l, p c = true) : runL p l = l.length := by
  have := runL_app (m := []) h
  rw [List.append_nil] at this
  rw [this]; rfl
theorem drop_full (l : List UInt8) : topB (l.drop l.length) = 0 := by rw [List.drop_length]; rfl
theorem take_len_le {l : List UInt8} {n : Nat} (h : n ≤ l.length) : (l.take n).length = n := by rw [List.length_take]; omega
theorem topB_take {l : List UInt8} {n : Nat} (h : 0 < n) : topB (l.take n) = topB l := by
  cases l with
  | nil => simp
  | cons c l => cases n with | zero => omega | succ n => rfl
theorem decV_digits : ∀ (l : List UInt8) (acc n : Nat), decV acc l = some n → ∀ c ∈ l, digB c = true
  | [], _, _, _, c, h => by simp at h
  | d :: l, acc, n, h, c, hc => by
    unfold decV at h
    split at h
    · rename_i hd
      rcases List.mem_cons.1 hc with rfl | hc
      · unfold digB; exact decide_eq_true hd
      · exact decV_digits l _ n h c hc
    · cases h
/-- A token that was read is one that may be written. -/
theorem one_ok {l : List UInt8} (hl : l ≠ []) {k n m : Nat} {s : List UInt8} (h : oneL l = .tok k s n m) (a : Int) : okT ⟨k, ⟨s.toArray⟩, n, a⟩ ∧ n ≤ 9223372036854775808 ∧ 1 ≤ k ∧ k ≤ 6 := by
  have hsz : (⟨s.toArray⟩ : ByteArray).size = s.length := rfl
  have hsl : (⟨s.toArray⟩ : ByteArray).data.toList = s := rfl
  unfold oneL at h
  split at h
  · unfold textOne at h
    split at h
    · cases h
    · split at h
      · cases h
      · rename_i t m' hq hlen
        cases h
        have e : textT ⟨4, ⟨s.toArray⟩, 0, a⟩ = 39 :: (quoteL s ++ [39]) := textT_4 rfl
        refine ⟨⟨by rw [e]; simp, by show s.length ≤ 1000; omega, ?_⟩, by decide, by decide, by decide⟩
        rw [e]
        unfold oneL
        rw [if_pos (show topB (39 :: _) = 39 from rfl)]
        unfold textOne
        rw [List.drop_succ_cons, List.drop_zero, quote_scan]
        simp only
        rw [if_neg hlen]
        simp
  · split at h
    · unfold blobOne at h
      split at h
      · cases h
      · split at h
        · cases h
        · rename_i t m' hq hlen
          cases h
          have e : textT ⟨5, ⟨s.toArray⟩, 0, a⟩ = 120 :: 39 :: (hexL s ++ [39]) := textT_5 rfl
          refine ⟨⟨by rw [e]; simp, by show s.length ≤ 1000; omega, ?_⟩, by decide, by decide, by decide⟩
          rw [e]
          unfold oneL
          rw [if_neg (show ¬ topB (120 :: _) = 39 by simp [topB]), if_pos ⟨rfl, rfl⟩]
          unfold blobOne
          rw [List.drop_succ_cons, List.drop_succ_cons, List.drop_zero, hex_scan]
          simp only
          rw [if_neg hlen]
          simp
    · split at h
      · rename_i h39 h120 hc
        unfold wordOne at h
        obtain ⟨c, l, rfl⟩ : ∃ c l', l = c :: l' := by cases l with | nil => exact absurd rfl hl | cons c l => exact ⟨c, l, rfl⟩
        have hc' : (smallB c || capB c) = true := hc
        have h39' : c ≠ 39 := h39
        split at h
        · rename_i hcap
          have hcap' : capB c = true := hcap
          have hw : wordB c = true := by unfold wordB; rw [hcap']; simp
          have h3 : 0 < runL wordB (c :: l) := by rw [runL_pos hw]; omega
          split at h
          · rename_i hmem
            cases h
            have htop : topB ((c :: l).take (runL wordB (c :: l))) = c := topB_take h3
            have hlen := take_len_le (runL_le wordB (c :: l))
            have hall := runL_all (p := wordB) (c :: l)
            have hfull := runL_full hall
            generalize (c :: l).take (runL wordB (c :: l)) = t at *
            have e : textT ⟨1, ⟨t.toArray⟩, 0, a⟩ = t := textT_w (.inl rfl)
            have hw32 : ∀ x ∈ wordsL, x.length ≤ 1000 := by decide +kernel
            refine ⟨⟨by rw [e]; rintro rfl; simp at hlen; omega, by show t.length ≤ 1000; exact hw32 t hmem, ?_⟩, by decide, by decide, by decide⟩
            rw [e]
            unfold oneL
            rw [htop, if_neg h39', if_neg (fun x => by have h1 : c = 120 := x.1; rw [h1] at hcap'; exact absurd hcap' (by decide)), if_pos hc']
            unfold wordOne
            rw [htop, if_pos hcap', hfull, List.take_length, if_pos hmem]
          · cases h
        · rename_i hcap
          have hcap' : capB c = false := by simpa [topB] using hcap
          have hw : nameB c = true := by
            rw [hcap', Bool.or_false] at hc'
            unfold nameB wordB; rw [hcap', hc']; rfl
          have h3 : 0 < runL nameB (c :: l) := by rw [runL_pos hw]; omega
          split at h
          · cases h
          · split at h
            · cases h
            · rename_i h32
              cases h
              have htop : topB ((c :: l).take (runL nameB (c :: l))) = c := topB_take h3
              have hlen := take_len_le (runL_le nameB (c :: l))
              have hall := runL_all (p := nameB) (c :: l)
              have hfull := runL_full hall
              have h1t : ∀ d, topB (((c :: l).take (runL nameB (c :: l))).drop 1) = d → d ≠ 0 → nameB d = true := by
                intro d hd hd0
                rcases hx : (c :: l).take (runL nameB (c :: l)) with _ | ⟨x, _ | ⟨y, t⟩⟩
                · rw [hx] at hd; exact absurd hd.symm hd0
                · rw [hx] at hd; exact absurd hd.symm hd0
                · rw [hx] at hd hall
                  have : y = d := hd
                  rw [← this]; exact hall y (by simp)
              generalize (c :: l).take (runL nameB (c :: l)) = t at *
              have e : textT ⟨2, ⟨t.toArray⟩, 0, a⟩ = t := textT_w (.inr (.inl rfl))
              refine ⟨⟨by rw [e]; rintro rfl; simp at hlen; omega, by show t.length ≤ 1000; omega, ?_⟩, by decide, by decide, by decide⟩
              rw [e]
              unfold oneL
              rw [htop, if_neg h39', if_neg (fun x => by have h1 := h1t 39 x.2 (by decide); exact absurd h1 (by decide)), if_pos hc']
              unfold wordOne
              rw [htop, if_neg (show ¬ capB c = true by rw [hcap']; decide), hfull, drop_full, List.take_length, if_neg (by decide), if_neg (by omega)]
      · split at h
        · unfold numOne at h
          split at h
          · cases h
          · split at h
            · cases h
            · split at h
              · cases h
              · rename_i n' hd hn
                cases h
                have e : textT ⟨3, ⟨([] : List UInt8).toArray⟩, n, a⟩ = decDigits n := textT_3 rfl
                have hdd := decV_dec n
                have hne := dec_ne n
                have hall := decV_digits _ _ _ hdd
                have hfull := runL_full hall
                obtain ⟨c, hc, hc1, hc2⟩ := dec_head_digit n
                have htop : topB (decDigits n) = c := by
                  cases hx : decDigits n with
                  | nil => exact absurd hx hne
                  | cons x y => rw [hx] at hc; simpa [topB] using hc
                have hcd : digB c = true := by unfold digB; exact decide_eq_true ⟨hc1, hc2⟩
                have hcs : smallB c = false ∧ capB c = false := by
                  unfold smallB capB; exact ⟨decide_eq_false (by omega), decide_eq_false (by omega)⟩
                have hn0 : ¬ (topB (decDigits n) = 48 ∧ digB (topB ((decDigits n).drop 1)) = true) := by
                  rintro ⟨h1, h2⟩
                  rcases Nat.lt_or_ge 0 n with h3 | h3
                  · have := dec_head n h3
                    rw [hc] at this
                    rw [htop] at h1
                    exact this (by rw [h1])
                  · have h4 : n = 0 := by omega
                    subst h4
                    rw [dec_small (by omega)] at h2
                    exact absurd h2 (by decide)
                refine ⟨⟨by rw [e]; exact hne, by show (0 : Nat) ≤ 1000; omega, ?_⟩, by omega, by decide, by decide⟩
                rw [e]
                unfold oneL
                rw [htop, if_neg (by rintro rfl; exact absurd hc1 (by decide)), if_neg (fun x => by have := x.1; subst this; exact absurd hc2 (by decide)), if_neg (by rw [hcs.1, hcs.2]; decide), if_pos hcd]
                unfold numOne
                rw [if_neg hn0, hfull, List.take_length, hdd]
                simp only
                rw [if_neg hn]
        · rename_i h39 h120 hsm hdg
          unfold signOne at h
          split at h
          · rename_i ht
            cases h
            have h2 : (l.take 2).take 2 = l.take 2 := by rw [List.take_take]; rfl
            generalize l.take 2 = t at *
            have e : textT ⟨6, ⟨t.toArray⟩, 0, a⟩ = t := textT_w (.inr (.inr rfl))
            have hl2 : ∀ x ∈ twosL, x ≠ [] ∧ x.length ≤ 1000 ∧ oneL x = .tok 6 x 0 x.length := by decide +kernel
            have := hl2 t ht
            exact ⟨⟨by rw [e]; exact this.1, this.2.1, by rw [e]; exact this.2.2⟩, by decide, by decide, by decide⟩
          · split at h
            · rename_i ht
              cases h
              obtain ⟨c, l, rfl⟩ : ∃ c l', l = c :: l' := by cases l with | nil => exact absurd rfl hl | cons c l => exact ⟨c, l, rfl⟩
              have hc : c ∈ signsL := ht
              have e : textT ⟨6, ⟨((c :: l).take 1).toArray⟩, 0, a⟩ = [c] := textT_w (.inr (.inr rfl))
              have hl2 : ∀ x ∈ signsL, oneL [x] = .tok 6 [x] 0 1 := by decide +kernel
              exact ⟨⟨by rw [e]; simp, by show 1 ≤ 1000; omega, by rw [e]; exact hl2 c hc⟩, by decide, by decide, by decide⟩
            · cases h
/-- All tokens of a text may be written. -/
theorem tk_ok : ∀ (f : Nat) (b : Nat) (l : List UInt8), l.length ≤ f → ∀ ts, tk b l = .inr ts → ∀ t ∈ ts, okT t ∧ t.n ≤ 9223372036854775808 ∧ 1 ≤ t.k ∧ t.k ≤ 6
  | f, b, l, hf, ts, h, t, hi => by
    rw [tk_eq] at h
    have h3 := skip_le _ l (Nat.le_refl _)
    by_cases hn : l.drop (skipL l) = []
    · rw [if_pos hn] at h; cases h; simp at hi
    · rw [if_neg hn] at h
      unfold stepT at h
      cases ho : oneL (l.drop (skipL l)) with
      | bad e' m => rw [ho] at h; cases h
      | tok k s n m =>
        rw [ho] at h
        have := one_len hn ho
        simp only [List.length_drop] at this
        simp only at h
        split at h
        · cases h
        · cases hr : tk (b + skipL l + m) ((l.drop (skipL l)).drop m) with
          | inl x => rw [hr] at h; cases h
          | inr t' =>
            rw [hr] at h
            cases h
            rcases List.mem_cons.1 hi with rfl | hi
            · exact one_ok hn ho _
            · match f, hf with
              | 0, hf => omega
              | f + 1, hf => exact tk_ok f _ _ (by simp only [List.length_drop]; omega) t' hr t hi

instance (t : Tk) : Decidable (okT t) := by unfold okT; exact inferInstance
/-- Tokens as they are written, and an error. -/
def writeL (l : List Tk) : List UInt8 × Nat := if ∀ t ∈ l, okT t then (joinL (l.map textT), 0) else ([], 2)
theorem glue_join : ∀ (l : List Tk) (x : Tk), joinL ((x :: l).map textT) = glue (([], x) :: l.map fun t => ([32], t))
  | [], x => by show textT x = [] ++ (textT x ++ []); simp
  | y :: l, x => by
    have ih := glue_join l y
    show textT x ++ 32 :: joinL ((y :: l).map textT) = [] ++ (textT x ++ ([32] ++ (textT y ++ glue (l.map fun t => ([32], t)))))
    rw [ih]; rfl
theorem snd_map (l : List Tk) (g : List UInt8) : (l.map fun t => (g, t)).map (·.2) = l := by
  induction l with | nil => rfl | cons x l ih => simp only [List.map_cons, ih]
/-- What is written is read as it was. -/
theorem write_read {l : List Tk} (h : ∀ t ∈ l, okT t) : ∃ m, tk 0 (joinL (l.map textT)) = .inr m ∧ sameL m l := by
  cases l with
  | nil => exact ⟨[], rfl, trivial⟩
  | cons x l =>
    rw [glue_join]
    obtain ⟨m, hm, hs⟩ := tk_glue (([], x) :: l.map fun t => ([32], t)) 0
      (by
        intro y hy
        rcases List.mem_cons.1 hy with rfl | hy
        · exact ⟨h x (by simp), gap_nil⟩
        · obtain ⟨t, ht, rfl⟩ := List.mem_map.1 hy
          exact ⟨h t (by simp [ht]), gap_blank (by decide)⟩)
      (by
        intro y hy
        obtain ⟨t, ht, rfl⟩ := List.mem_map.1 hy
        exact ⟨show blankB 32 = true by decide, by simp⟩)
    refine ⟨m, hm, ?_⟩
    have : (([], x) :: l.map fun t => (([32] : List UInt8), t)).map (·.2) = x :: l := by
      rw [List.map_cons, snd_map]
    rw [this] at hs
    exact hs
end Go.Proofs.YthjggbpbcdejbaaDoor.Dt
