/-
  Values as they are written and read: plain laws, no program in sight.
-/
import Derived.Test.YtghfaeapgghhlaaDoorValueSpec
import Derived.Test.YtghfaeapgghhlaaDoorDecSpec
namespace Go.Proofs.YtghfaeapgghhlaaDoor.Dt
open Go.Lib

/-- A text with its quotes doubled. -/
def quoteL : List UInt8 → List UInt8
  | [] => []
  | c :: l => if c = 39 then 39 :: 39 :: quoteL l else c :: quoteL l
/-- What stands between quotes; none: a quote stands there alone. -/
def unq : List UInt8 → Option (List UInt8)
  | [] => some []
  | [c] => if c = 39 then none else some [c]
  | c :: d :: l => if c = 39 then (if d = 39 then (unq l).map (39 :: ·) else none) else (unq (d :: l)).map (c :: ·)
/-- A digit to the base 16, and back. -/
def hexC (n : Nat) : UInt8 := if n < 10 then UInt8.ofNat (48 + n) else UInt8.ofNat (87 + n)
def hexV (c : UInt8) : Option Nat := if 48 ≤ c.toNat ∧ c.toNat ≤ 57 then some (c.toNat - 48) else if 97 ≤ c.toNat ∧ c.toNat ≤ 102 then some (c.toNat - 87) else none
def hexL : List UInt8 → List UInt8
  | [] => []
  | c :: l => hexC (c.toNat / 16) :: hexC (c.toNat % 16) :: hexL l
def unhex : List UInt8 → Option (List UInt8)
  | [] => some []
  | [_] => none
  | c :: d :: l => match hexV c, hexV d with
    | some a, some b => (unhex l).map (UInt8.ofNat (16 * a + b) :: ·)
    | _, _ => none

theorem hexV_hexC (n : Nat) (h : n < 16) : hexV (hexC n) = some n := by
  unfold hexC
  by_cases h1 : n < 10
  · rw [if_pos h1]; unfold hexV
    rw [UInt8.toNat_ofNat', Nat.mod_eq_of_lt (by omega), if_pos (by omega)]
    congr 1; omega
  · rw [if_neg h1]; unfold hexV
    rw [UInt8.toNat_ofNat', Nat.mod_eq_of_lt (by omega), if_neg (by omega), if_pos (by omega)]
    congr 1; omega
theorem hexC_hexV {c : UInt8} {n : Nat} (h : hexV c = some n) : hexC n = c ∧ n < 16 := by
  unfold hexV at h
  by_cases h1 : 48 ≤ c.toNat ∧ c.toNat ≤ 57
  · rw [if_pos h1] at h
    obtain rfl := Option.some.inj h
    refine ⟨?_, by omega⟩
    unfold hexC
    rw [if_pos (by omega), show 48 + (c.toNat - 48) = c.toNat by omega]
    exact UInt8.ofNat_toNat
  · rw [if_neg h1] at h
    by_cases h2 : 97 ≤ c.toNat ∧ c.toNat ≤ 102
    · rw [if_pos h2] at h
      obtain rfl := Option.some.inj h
      refine ⟨?_, by omega⟩
      unfold hexC
      rw [if_neg (by omega), show 87 + (c.toNat - 87) = c.toNat by omega]
      exact UInt8.ofNat_toNat
    · rw [if_neg h2] at h; cases h
theorem unhex_hexL : ∀ l : List UInt8, unhex (hexL l) = some l
  | [] => rfl
  | c :: l => by
    have hc := c.toNat_lt
    simp only [hexL, unhex]
    rw [hexV_hexC _ (by omega), hexV_hexC _ (by omega), unhex_hexL l]
    simp only [Option.map_some]
    rw [show 16 * (c.toNat / 16) + c.toNat % 16 = c.toNat by omega, UInt8.ofNat_toNat]
theorem hexL_unhex : ∀ (l t : List UInt8), unhex l = some t → hexL t = l
  | [], t, h => by obtain rfl := Option.some.inj h; rfl
  | [_], t, h => by cases h
  | c :: d :: l, t, h => by
    simp only [unhex] at h
    cases hc : hexV c with
    | none => rw [hc] at h; cases h
    | some a =>
      cases hd : hexV d with
      | none => rw [hc, hd] at h; cases h
      | some b =>
        rw [hc, hd] at h
        simp only at h
        cases hu : unhex l with
        | none => rw [hu] at h; cases h
        | some u =>
          rw [hu] at h
          obtain rfl := Option.some.inj h
          obtain ⟨e1, h1⟩ := hexC_hexV hc
          obtain ⟨e2, h2⟩ := hexC_hexV hd
          simp only [hexL]
          rw [UInt8.toNat_ofNat', Nat.mod_eq_of_lt (by omega), show (16 * a + b) / 16 = a by omega, show (16 * a + b) % 16 = b by omega, e1, e2, hexL_unhex l u hu]
theorem quoteL_len : ∀ l : List UInt8, (quoteL l).length ≤ 2 * l.length
  | [] => Nat.le_refl _
  | c :: l => by
    have := quoteL_len l
    simp only [quoteL]
    split <;> simp only [List.length_cons] <;> omega
theorem hexL_length : ∀ l : List UInt8, (hexL l).length = 2 * l.length
  | [] => rfl
  | c :: l => by simp only [hexL, List.length_cons, hexL_length l]; omega
theorem unhex_length {l t : List UInt8} (h : unhex l = some t) : l.length = 2 * t.length := by rw [← hexL_unhex l t h, hexL_length]
theorem unq_other {c : UInt8} (h : c ≠ 39) (l : List UInt8) : unq (c :: l) = (unq l).map (c :: ·) := by
  rcases l with _ | ⟨d, l⟩
  · simp [unq, h]
  · simp [unq, h]
theorem unq_quote (l : List UInt8) : unq (39 :: 39 :: l) = (unq l).map (39 :: ·) := by simp [unq]
theorem unq_quoteL : ∀ l : List UInt8, unq (quoteL l) = some l
  | [] => rfl
  | c :: l => by
    simp only [quoteL]
    by_cases h : c = 39
    · rw [if_pos h, unq_quote, unq_quoteL l, h]; rfl
    · rw [if_neg h, unq_other h, unq_quoteL l]; rfl
theorem quoteL_unq : ∀ (m : Nat) (l t : List UInt8), l.length ≤ m → unq l = some t → quoteL t = l
  | _, [], t, _, h => by obtain rfl := Option.some.inj h; rfl
  | 0, _ :: _, _, hl, _ => by simp at hl
  | m + 1, c :: l, t, hl, h => by
    by_cases hc : c = 39
    · subst hc
      rcases l with _ | ⟨d, l⟩
      · simp [unq] at h
      · by_cases hd : d = 39
        · subst hd
          rw [unq_quote] at h
          cases hu : unq l with
          | none => rw [hu] at h; cases h
          | some u =>
            rw [hu] at h
            obtain rfl := Option.some.inj h
            simp only [quoteL, if_true]
            rw [quoteL_unq m l u (by simp at hl; omega) hu]
        · simp [unq, hd] at h
    · rw [unq_other hc] at h
      cases hu : unq l with
      | none => rw [hu] at h; cases h
      | some u =>
        rw [hu] at h
        obtain rfl := Option.some.inj h
        simp only [quoteL]
        rw [if_neg hc, quoteL_unq m l u (by simpa using hl) hu]

/-- A value's literal. -/
def litV (v : V) : List UInt8 :=
  if checkV v ≠ 0 then [] else if v.k = 1 then itoa v.n else if v.k = 2 then 39 :: (quoteL v.s.data.toList ++ [39])
  else if v.k = 3 then 120 :: 39 :: (hexL v.s.data.toList ++ [39]) else [78, 85, 76, 76]
/-- No value. -/
def V0 : V := ⟨0, 0, ByteArray.empty⟩
/-- What is told between quotes; none: it is no text. -/
def textS (l : List UInt8) : Option (List UInt8) := if l.length < 2 ∨ l.head? ≠ some 39 ∨ l.getLast? ≠ some 39 then none else unq (l.drop 1).dropLast
/-- Is it a blob's form? -/
def blobF (l : List UInt8) : Prop := 3 ≤ l.length ∧ l.head? = some 120 ∧ l[1]? = some 39 ∧ l.getLast? = some 39
instance (l : List UInt8) : Decidable (blobF l) := by unfold blobF; exact inferInstance
/-- The value that a text says, ahead of asking whether it may be. -/
def rawS (l : List UInt8) : Option V :=
  if blobF l then (unhex (l.drop 2).dropLast).map fun t => ⟨3, 0, ⟨t.toArray⟩⟩
  else if l.head? = some 39 then (textS l).map fun t => ⟨2, 0, ⟨t.toArray⟩⟩
  else (numS l).map fun n => ⟨1, n, ByteArray.empty⟩
/-- The value whose literal a text is, and an error. -/
def readS (l : List UInt8) : V × Nat :=
  if l = [78, 85, 76, 76] then (V0, 0)
  else match rawS l with
    | none => (V0, 6)
    | some v => if 1000 < v.s.size then (V0, 3) else (v, 0)

theorem bytes_size (t : List UInt8) : (⟨t.toArray⟩ : ByteArray).size = t.length := rfl
theorem bytes_of (s : ByteArray) : (⟨s.data.toList.toArray⟩ : ByteArray) = s := ByteArray.ext (Array.toArray_toList)
theorem bytes_list (s : ByteArray) : s.data.toList.length = s.size := by rw [Array.length_toList, ByteArray.size_data]
theorem itoa_head (n : Int) : ∃ c, (itoa n).head? = some c ∧ (c.toNat = 45 ∨ (48 ≤ c.toNat ∧ c.toNat ≤ 57)) := by
  unfold itoa
  by_cases h : n < 0
  · rw [if_pos h]; exact ⟨45, rfl, .inl rfl⟩
  · rw [if_neg h]
    obtain ⟨c, h1, h2⟩ := dec_head_digit n.toNat
    exact ⟨c, h1, .inr h2⟩
theorem numS_head {l : List UInt8} {n : Int} (h : numS l = some n) : ∃ c, l.head? = some c ∧ (c.toNat = 45 ∨ (48 ≤ c.toNat ∧ c.toNat ≤ 57)) := by
  obtain ⟨_, rfl⟩ := (numS_iff l n).1 h
  exact itoa_head n
theorem parse_itoa (n : Int) (h1 : -9223372036854775808 ≤ n) (h2 : n ≤ 9223372036854775807) : parseIntB 64 (itoa n) = .ok n := by
  rw [parseB]
  rcases Int.lt_or_le n 0 with h | h
  · obtain ⟨k, rfl⟩ : ∃ k : Nat, n = -(k : Int) := ⟨n.natAbs, by omega⟩
    rw [itoa_neg k (by omega)]
    exact .inl ⟨rfl, dec_ne k, k, parse_of _ _ _ (decV_dec k) (by omega), by omega, rfl⟩
  · obtain ⟨k, rfl⟩ : ∃ k : Nat, n = (k : Int) := ⟨n.toNat, by omega⟩
    rw [itoa_nonneg]
    obtain ⟨c, hc, hc1, hc2⟩ := dec_head_digit k
    refine .inr (.inr ⟨dec_ne k, ?_, ?_, k, parse_of _ _ _ (decV_dec k) (by omega), by omega, rfl⟩)
    · rw [hc]; intro e; have := congrArg UInt8.toNat (Option.some.inj e); have : (45 : UInt8).toNat = 45 := rfl; omega
    · rw [hc]; intro e; have := congrArg UInt8.toNat (Option.some.inj e); have : (43 : UInt8).toNat = 43 := rfl; omega
theorem numS_itoa (n : Int) (h1 : -9223372036854775808 ≤ n) (h2 : n ≤ 9223372036854775807) : numS (itoa n) = some n := (numS_iff _ _).2 ⟨parse_itoa n h1 h2, rfl⟩
theorem numS_bounds {l : List UInt8} {n : Int} (h : numS l = some n) : -9223372036854775808 ≤ n ∧ n ≤ 9223372036854775807 := by
  have := ((numS_iff l n).1 h).1
  rw [parseB] at this
  rcases this with ⟨_, _, k, _, h, rfl⟩ | ⟨_, _, k, _, h, rfl⟩ | ⟨_, _, _, k, _, h, rfl⟩ <;> omega

theorem check_ok {v : V} (h : ¬ badV v) (hs : v.s.size ≤ 1000) : checkV v = 0 := by unfold checkV; rw [if_neg h, if_neg (by omega)]
theorem not_bad23 {k : Nat} (h : k = 2 ∨ k = 3) (s : ByteArray) : ¬ badV ⟨k, 0, s⟩ := by rintro (h1 | ⟨_, h1⟩ | ⟨h1, _⟩); (have : 3 < k := h1; omega); exact h1 rfl; (have : k < 2 := h1; omega)
theorem not_bad1 (n : Int) : ¬ badV ⟨1, n, ByteArray.empty⟩ := by rintro (h1 | ⟨h1, _⟩ | ⟨_, h1⟩); (have : 3 < 1 := h1; omega); exact h1 rfl; exact h1 rfl
/-- What is written is read as it was. -/
theorem read_lit {v : V} (hc : checkV v = 0) (ho : v.ok) : readS (litV v) = (v, 0) := by
  obtain ⟨k, n, s⟩ := v
  obtain ⟨_, ⟨hn1, hn2⟩, _⟩ := ho
  unfold checkV at hc
  by_cases hb : badV ⟨k, n, s⟩
  · rw [if_pos hb] at hc; cases hc
  · rw [if_neg hb] at hc
    by_cases hs : 1000 < s.size
    · rw [if_pos hs] at hc; cases hc
    · have hc0 : checkV ⟨k, n, s⟩ = 0 := by unfold checkV; rw [if_neg hb, if_neg hs]
      unfold litV
      rw [if_neg (by simp [hc0])]
      simp only [badV, not_or] at hb
      obtain ⟨b1, b2, b3⟩ := hb
      by_cases h1 : k = 1
      · subst h1
        have hse : s = ByteArray.empty := Decidable.byContradiction fun h => b3 ⟨by decide, h⟩
        subst hse
        rw [if_pos rfl]
        obtain ⟨c, hc1, hc2⟩ := itoa_head n
        have hc3 := c.toNat_lt
        show readS (itoa n) = _
        unfold readS rawS
        have e78 : itoa n ≠ [78, 85, 76, 76] := by
          intro e; rw [e] at hc1
          have := congrArg UInt8.toNat (Option.some.inj hc1); have : (78 : UInt8).toNat = 78 := rfl; omega
        have e120 : ¬ (itoa n).head? = some 120 := by
          intro e; rw [e] at hc1
          have := congrArg UInt8.toNat (Option.some.inj hc1); have : (120 : UInt8).toNat = 120 := rfl; omega
        have e39 : ¬ (itoa n).head? = some 39 := by
          intro e; rw [e] at hc1
          have := congrArg UInt8.toNat (Option.some.inj hc1); have : (39 : UInt8).toNat = 39 := rfl; omega
        rw [if_neg e78, if_neg (fun h => e120 h.2.1), if_neg e39, numS_itoa n hn1 hn2]
        rfl
      · rw [if_neg h1]
        have hn0 : n = 0 := Decidable.byContradiction fun h => b2 ⟨h1, h⟩
        subst hn0
        by_cases h2 : k = 2
        · subst h2
          rw [if_pos rfl]
          show readS (39 :: (quoteL s.data.toList ++ [39])) = _
          have hx : ¬ ((39 :: (quoteL s.data.toList ++ [39])).length < 2 ∨ (39 :: (quoteL s.data.toList ++ [39])).head? ≠ some 39 ∨ (39 :: (quoteL s.data.toList ++ [39])).getLast? ≠ some 39) := by
            rintro (h | h | h)
            · rw [List.length_cons, List.length_append, List.length_singleton] at h; omega
            · exact h rfl
            · apply h
              rw [show (39 :: (quoteL s.data.toList ++ [39])) = (39 :: quoteL s.data.toList) ++ [39] by simp, List.getLast?_concat]
          have hnb : ¬ blobF (39 :: (quoteL s.data.toList ++ [39])) := fun h => absurd h.2.1 (by simp)
          have h78 : ¬ (39 :: (quoteL s.data.toList ++ [39]) = [78, 85, 76, 76]) := fun h => by simp at h
          unfold readS rawS textS
          rw [if_neg h78, if_neg hnb, if_pos (by simp), if_neg hx]
          simp only [List.drop_succ_cons, List.drop_zero, List.dropLast_concat, unq_quoteL, Option.map_some, bytes_of]
          rw [if_neg hs]
        · rw [if_neg h2]
          by_cases h3 : k = 3
          · subst h3
            rw [if_pos rfl]
            show readS (120 :: 39 :: (hexL s.data.toList ++ [39])) = _
            unfold readS rawS
            have hbl : blobF (120 :: 39 :: (hexL s.data.toList ++ [39])) := by
              refine ⟨by simp, rfl, rfl, ?_⟩
              rw [show (120 :: 39 :: (hexL s.data.toList ++ [39])) = (120 :: 39 :: hexL s.data.toList) ++ [39] by simp, List.getLast?_concat]
            rw [if_neg (by simp), if_pos hbl]
            simp only [List.drop_succ_cons, List.drop_zero, List.dropLast_concat, unhex_hexL, Option.map_some, bytes_of]
            rw [if_neg hs]
          · rw [if_neg h3]
            obtain rfl : k = 0 := by omega
            have hse : s = ByteArray.empty := Decidable.byContradiction fun h => b3 ⟨by decide, h⟩
            subst hse
            rfl

theorem ends {l : List UInt8} {a b : UInt8} (h1 : 2 ≤ l.length) (h2 : l.head? = some a) (h3 : l.getLast? = some b) : l = a :: ((l.drop 1).dropLast ++ [b]) := by
  rcases l with _ | ⟨c, l⟩
  · cases h2
  · obtain rfl := Option.some.inj h2
    have hl : l ≠ [] := by intro e; subst e; simp at h1
    rw [List.drop_succ_cons, List.drop_zero]
    rw [List.getLast?_cons, List.getLast?_eq_some_getLast hl, Option.getD_some] at h3
    obtain rfl := Option.some.inj h3
    rw [List.dropLast_concat_getLast hl]
theorem ok_bytes (t : List UInt8) (k : Nat) (hk : k < 256) (ht : t.length ≤ 1000) : V.ok ⟨k, 0, ⟨t.toArray⟩⟩ := ⟨hk, ⟨by show (-9223372036854775808 : Int) ≤ 0; decide, by show (0 : Int) ≤ 9223372036854775807; decide⟩, by show t.length ≤ 140737488351232; omega⟩
/-- What is read is written as it was. -/
theorem lit_read {l : List UInt8} {v : V} (h : readS l = (v, 0)) : checkV v = 0 ∧ litV v = l ∧ v.ok := by
  unfold readS at h
  by_cases h0 : l = [78, 85, 76, 76]
  · rw [if_pos h0] at h
    obtain rfl := (Prod.mk.inj h).1
    subst h0
    exact ⟨by decide, by decide, by decide, ⟨by decide, by decide⟩, by decide⟩
  · rw [if_neg h0] at h
    cases hr : rawS l with
    | none => rw [hr] at h; exact absurd (Prod.mk.inj h).2 (by decide)
    | some u =>
      rw [hr] at h
      simp only at h
      by_cases hs : 1000 < u.s.size
      · rw [if_pos hs] at h; exact absurd (Prod.mk.inj h).2 (by decide)
      · rw [if_neg hs] at h
        obtain rfl := (Prod.mk.inj h).1
        clear h
        unfold rawS at hr
        by_cases hb : blobF l
        · rw [if_pos hb] at hr
          cases hu : unhex (l.drop 2).dropLast with
          | none => rw [hu] at hr; cases hr
          | some t =>
            rw [hu] at hr
            have hr' : u = ⟨3, 0, ⟨t.toArray⟩⟩ := (Option.some.inj hr).symm
            subst hr'
            have ht : t.length ≤ 1000 := Nat.not_lt.1 hs
            have hck : checkV ⟨3, 0, ⟨t.toArray⟩⟩ = 0 := check_ok (not_bad23 (by decide) _) ht
            refine ⟨hck, ?_, ok_bytes t 3 (by decide) ht⟩
            unfold litV
            rw [if_neg (by simp [hck]), if_neg (show ¬ (3 = 1) by decide), if_neg (show ¬ (3 = 2) by decide), if_pos rfl]
            obtain ⟨b1, b2, b3, b4⟩ := hb
            show 120 :: 39 :: (hexL t ++ [39]) = l
            rw [hexL_unhex _ _ hu]
            rcases l with _ | ⟨c, l⟩
            · cases b2
            · obtain rfl := Option.some.inj b2
              congr 1
              rw [List.drop_succ_cons]
              have hl : l ≠ [] := by intro e; subst e; simp at b1
              refine (ends (by simp at b1; omega) (by cases l with | nil => cases b3 | cons x y => exact b3) ?_).symm
              rw [List.getLast?_cons, List.getLast?_eq_some_getLast hl, Option.getD_some] at b4
              rw [List.getLast?_eq_some_getLast hl, b4]
        · rw [if_neg hb] at hr
          by_cases hq : l.head? = some 39
          · rw [if_pos hq] at hr
            cases hu : textS l with
            | none => rw [hu] at hr; cases hr
            | some t =>
              rw [hu] at hr
              have hr' : u = ⟨2, 0, ⟨t.toArray⟩⟩ := (Option.some.inj hr).symm
              subst hr'
              have ht : t.length ≤ 1000 := Nat.not_lt.1 hs
              have hck : checkV ⟨2, 0, ⟨t.toArray⟩⟩ = 0 := check_ok (not_bad23 (by decide) _) ht
              refine ⟨hck, ?_, ok_bytes t 2 (by decide) ht⟩
              unfold litV
              rw [if_neg (by simp [hck]), if_neg (show ¬ (2 = 1) by decide), if_pos rfl]
              show 39 :: (quoteL t ++ [39]) = l
              unfold textS at hu
              by_cases hx : l.length < 2 ∨ l.head? ≠ some 39 ∨ l.getLast? ≠ some 39
              · rw [if_pos hx] at hu; cases hu
              · rw [if_neg hx] at hu
                simp only [not_or, Decidable.not_not] at hx
                rw [quoteL_unq _ _ _ (Nat.le_refl _) hu]
                exact (ends (by omega) hx.2.1 hx.2.2).symm
          · rw [if_neg hq] at hr
            cases hu : numS l with
            | none => rw [hu] at hr; cases hr
            | some n =>
              rw [hu] at hr
              have hr' : u = ⟨1, n, ByteArray.empty⟩ := (Option.some.inj hr).symm
              subst hr'
              have hck : checkV ⟨1, n, ByteArray.empty⟩ = 0 := check_ok (not_bad1 n) (Nat.zero_le _)
              refine ⟨hck, ?_, (by show 1 < 256; decide), numS_bounds hu, Nat.zero_le _⟩
              unfold litV
              rw [if_neg (by simp [hck]), if_pos rfl]
              exact ((numS_iff l n).1 hu).2
theorem read_err {l : List UInt8} {v : V} {e : Nat} (h : readS l = (v, e)) (he : e ≠ 0) : v = V0 ∧ (e = 6 ∨ e = 3) := by
  unfold readS at h
  by_cases h0 : l = [78, 85, 76, 76]
  · rw [if_pos h0] at h; exact absurd (Prod.mk.inj h).2.symm he
  · rw [if_neg h0] at h
    cases hr : rawS l with
    | none => rw [hr] at h; obtain ⟨rfl, rfl⟩ := Prod.mk.inj h; exact ⟨rfl, .inl rfl⟩
    | some u =>
      rw [hr] at h
      simp only at h
      by_cases hs : 1000 < u.s.size
      · rw [if_pos hs] at h; obtain ⟨rfl, rfl⟩ := Prod.mk.inj h; exact ⟨rfl, .inr rfl⟩
      · rw [if_neg hs] at h; exact absurd (Prod.mk.inj h).2.symm he
end Go.Proofs.YtghfaeapgghhlaaDoor.Dt
