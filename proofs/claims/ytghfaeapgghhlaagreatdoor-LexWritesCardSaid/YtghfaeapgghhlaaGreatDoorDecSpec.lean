/-
  Numbers as they are written in digits: plain laws, no program in sight.
-/
import Derived.Lib.ItoaMem
import Derived.Lib.ParseIntB
import Derived.Lib.ParseIntBTie
namespace Go.Proofs.YtghfaeapgghhlaaGreatDoor.Dt
open Go.Lib

/-- What digits say, behind what stands ahead of them. -/
def decV : Nat → List UInt8 → Option Nat
  | acc, [] => some acc
  | acc, c :: r => if 48 ≤ c.toNat ∧ c.toNat ≤ 57 then decV (10 * acc + (c.toNat - 48)) r else none

theorem head_app {l m : List UInt8} (h : l ≠ []) : (l ++ m).head? = l.head? := by cases l with | nil => exact absurd rfl h | cons a l => rfl
theorem decV_snoc (c : UInt8) : ∀ (l : List UInt8) (acc : Nat), decV acc (l ++ [c]) = (decV acc l).bind fun n => if 48 ≤ c.toNat ∧ c.toNat ≤ 57 then some (10 * n + (c.toNat - 48)) else none
  | [], acc => by simp [decV]
  | d :: l, acc => by
    simp only [List.cons_append, decV]
    by_cases h : 48 ≤ d.toNat ∧ d.toNat ≤ 57
    · rw [if_pos h, if_pos h, decV_snoc c l]
    · rw [if_neg h, if_neg h]; rfl
theorem decV_le : ∀ (l : List UInt8) (acc n : Nat), decV acc l = some n → acc ≤ n
  | [], acc, n, h => by simp only [decV, Option.some.injEq] at h; omega
  | c :: l, acc, n, h => by
    simp only [decV] at h
    by_cases hd : 48 ≤ c.toNat ∧ c.toNat ≤ 57
    · rw [if_pos hd] at h
      have := decV_le l _ n h
      omega
    · rw [if_neg hd] at h; cases h
theorem digit_nat (k : Nat) (h : k < 10) : (UInt8.ofNat (48 + k)).toNat = 48 + k := by rw [UInt8.toNat_ofNat', Nat.mod_eq_of_lt (by omega)]
theorem nat_digit (c : UInt8) (h : 48 ≤ c.toNat) : UInt8.ofNat (48 + (c.toNat - 48)) = c := by
  rw [show 48 + (c.toNat - 48) = c.toNat by omega]
  exact UInt8.ofNat_toNat
theorem dec_small {n : Nat} (h : n < 10) : decDigits n = [UInt8.ofNat (48 + n)] := decDigits_one h
theorem dec_big {n : Nat} (h : ¬ n < 10) : decDigits n = decDigits (n / 10) ++ [UInt8.ofNat (48 + n % 10)] := by rw [decDigits, dif_neg h]
theorem decV_dec (n : Nat) : decV 0 (decDigits n) = some n := by
  induction n using Nat.strongRecOn with
  | _ n ih =>
    by_cases h : n < 10
    · rw [dec_small h]
      simp only [decV]
      rw [digit_nat n h, if_pos (by omega)]
      congr 1
      omega
    · rw [dec_big h, decV_snoc, ih (n / 10) (by omega), Option.bind_some, digit_nat _ (Nat.mod_lt _ (by decide)), if_pos (by have := Nat.mod_lt n (show 0 < 10 by decide); omega)]
      congr 1
      omega
theorem dec_ne (n : Nat) : decDigits n ≠ [] := by
  intro h
  by_cases hn : n < 10
  · rw [dec_small hn] at h; cases h
  · rw [dec_big hn] at h; simp at h
/-- No digit 0 ahead of others. -/
theorem dec_head (n : Nat) (h : 0 < n) : (decDigits n).head? ≠ some 48 := by
  induction n using Nat.strongRecOn with
  | _ n ih =>
    by_cases hn : n < 10
    · rw [dec_small hn]
      intro e
      have e2 := congrArg UInt8.toNat (Option.some.inj e)
      rw [digit_nat n hn] at e2
      have : (48 : UInt8).toNat = 48 := rfl
      omega
    · rw [dec_big hn]
      intro e
      have hne := dec_ne (n / 10)
      rw [head_app hne] at e
      exact ih (n / 10) (by omega) (by omega) e
theorem dec_head_digit (n : Nat) : ∃ c, (decDigits n).head? = some c ∧ 48 ≤ c.toNat ∧ c.toNat ≤ 57 := by
  induction n using Nat.strongRecOn with
  | _ n ih =>
    by_cases hn : n < 10
    · refine ⟨UInt8.ofNat (48 + n), by rw [dec_small hn]; rfl, ?_⟩
      rw [digit_nat n hn]; omega
    · rw [dec_big hn, head_app (dec_ne _)]
      exact ih (n / 10) (by omega)
theorem dec_len : ∀ (k n : Nat), n < 10 ^ k → 1 ≤ k → (decDigits n).length ≤ k
  | 0, _, _, h => by omega
  | k + 1, n, h, _ => by
    by_cases hn : n < 10
    · rw [dec_small hn]; simp
    · rw [dec_big hn, List.length_append]
      have hk : 1 ≤ k := by
        rcases k with _ | k
        · simp at h; omega
        · omega
      have := dec_len k (n / 10) (by rw [Nat.pow_succ] at h; omega) hk
      simp; omega
/-- Digits that are a number's are that number's. -/
theorem dec_decV : ∀ (m : Nat) (l : List UInt8), l.length = m → ∀ n, l ≠ [] → (l.head? = some 48 → l.length = 1) → decV 0 l = some n → decDigits n = l := by
  intro m
  induction m with
  | zero => intro l hl n h; exact absurd (List.length_eq_zero_iff.1 hl) h
  | succ m ih =>
    intro l hl n _ hz hv
    rcases List.eq_nil_or_concat l with rfl | ⟨d, c, rfl⟩
    · cases hl
    · rw [List.concat_eq_append] at *
      rw [decV_snoc] at hv
      have hd : d.length = m := by simpa using hl
      cases hdv : decV 0 d with
      | none => rw [hdv] at hv; cases hv
      | some k =>
        rw [hdv, Option.bind_some] at hv
        by_cases hc : 48 ≤ c.toNat ∧ c.toNat ≤ 57
        · rw [if_pos hc] at hv
          obtain rfl := Option.some.inj hv
          rcases d with _ | ⟨x, d⟩
          · simp only [decV] at hdv
            obtain rfl := Option.some.inj hdv
            rw [dec_small (by omega), show 10 * 0 + (c.toNat - 48) = c.toNat - 48 by omega, nat_digit c hc.1]; rfl
          · have hx : (x :: d).head? ≠ some 48 := by
              intro e
              have := hz (by rw [head_app (by simp)]; exact e)
              simp at this
            have e1 := ih (x :: d) hd k (by simp) (fun e => absurd e hx) hdv
            have hk : 0 < k := by
              rcases Nat.eq_zero_or_pos k with rfl | h
              · exfalso
                rw [dec_small (by decide)] at e1
                apply hx
                rw [← e1]; rfl
              · exact h
            rw [dec_big (by omega), show (10 * k + (c.toNat - 48)) / 10 = k by omega, show (10 * k + (c.toNat - 48)) % 10 = c.toNat - 48 by omega, e1, nat_digit c hc.1]
        · rw [if_neg hc] at hv; cases hv

theorem parse_ok (M : Nat) : ∀ (l : List UInt8) (acc u : Nat), parseUintM M acc l = .ok u → decV acc l = some u
  | [], acc, u, h => by simp only [parseUintM] at h; injection h with h; rw [h]; rfl
  | c :: r, acc, u, h => by
    simp only [parseUintM] at h
    simp only [decV]
    by_cases hc : 48 ≤ c.toNat ∧ c.toNat ≤ 57
    · rw [if_pos hc] at h ⊢
      split at h
      · cases h
      · split at h
        · cases h
        · rw [show 10 * acc = acc * 10 by omega]
          exact parse_ok M r _ u h
    · rw [if_neg hc] at h; cases h
theorem parse_of : ∀ (l : List UInt8) (acc u : Nat), decV acc l = some u → u ≤ 18446744073709551615 → parseUintM 18446744073709551615 acc l = .ok u
  | [], acc, u, h, _ => by simp only [decV] at h; rw [← Option.some.inj h]; rfl
  | c :: r, acc, u, h, hu => by
    simp only [decV] at h
    simp only [parseUintM]
    by_cases hc : 48 ≤ c.toNat ∧ c.toNat ≤ 57
    · rw [if_pos hc] at h ⊢
      have hle := decV_le _ _ _ h
      rw [if_neg (by omega), if_neg (by omega), show acc * 10 = 10 * acc by omega]
      exact parse_of r _ u h hu
    · rw [if_neg hc] at h; cases h

/-- The number that a text says; none: it says none. -/
def numS (l : List UInt8) : Option Int :=
  if l.head? = some 45 then
    if l.length < 2 ∨ 20 < l.length ∨ l.tail.head? = some 48 then none
    else match decV 0 l.tail with
      | none => none
      | some n => if n ≤ 9223372036854775808 then some (-(n : Int)) else none
  else if l.length < 1 ∨ 19 < l.length ∨ (l.head? = some 48 ∧ 1 < l.length) then none
  else match decV 0 l with
    | none => none
    | some n => if n < 9223372036854775808 then some (n : Int) else none

theorem parseB (l : List UInt8) (v : Int) : parseIntB 64 l = .ok v ↔
    (l.head? = some 45 ∧ l.tail ≠ [] ∧ ∃ n : Nat, parseUintM 18446744073709551615 0 l.tail = .ok n ∧ n ≤ 9223372036854775808 ∧ v = -(n : Int)) ∨
    (l.head? = some 43 ∧ l.tail ≠ [] ∧ ∃ n : Nat, parseUintM 18446744073709551615 0 l.tail = .ok n ∧ n < 9223372036854775808 ∧ v = (n : Int)) ∨
    (l ≠ [] ∧ l.head? ≠ some 45 ∧ l.head? ≠ some 43 ∧ ∃ n : Nat, parseUintM 18446744073709551615 0 l = .ok n ∧ n < 9223372036854775808 ∧ v = (n : Int)) := by
  rcases l with _ | ⟨c, r⟩
  · simp [parseIntB]
  · have e : (2 : Nat) ^ 64 - 1 = 18446744073709551615 := by decide
    have e2 : (2 : Nat) ^ (64 - 1) = 9223372036854775808 := by decide
    have u45 : c = 45 ↔ c.toNat = 45 := by rw [← UInt8.toNat_inj]; exact Iff.rfl
    have u43 : c = 43 ↔ c.toNat = 43 := by rw [← UInt8.toNat_inj]; exact Iff.rfl
    simp only [parseIntB, parseUintB, e, e2, List.head?_cons, Option.some.injEq, List.tail_cons, ne_eq, reduceCtorEq, not_false_eq_true, true_and]
    rw [u45, u43]
    by_cases h1 : c.toNat = 45
    · rw [if_pos (Or.inr h1)]
      by_cases hr : r = []
      · subst hr; simp [h1]
      · rw [if_neg hr]
        rcases hp : parseUintM 18446744073709551615 0 r with n | _ | _
        · skip
          simp only [h1, not_true_eq_false, false_and, if_false, true_and, if_true, NumEnd.ok.injEq, or_false, show ¬ (45 : Nat) = 43 by decide]
          by_cases hn : 9223372036854775808 < n
          · rw [if_pos hn]
            constructor
            · intro h; cases h
            · rintro ⟨_, m, e, h, _⟩; omega
          · rw [if_neg hn]
            constructor
            · intro h; injection h with h; exact ⟨hr, n, rfl, by omega, h.symm⟩
            · rintro ⟨_, m, e, _, h⟩; rw [h, e]
        · simp [h1]
        · simp [h1]
    · by_cases h2 : c.toNat = 43
      · rw [if_pos (Or.inl h2)]
        by_cases hr : r = []
        · subst hr; simp [h2]
        · rw [if_neg hr]
          rcases hp : parseUintM 18446744073709551615 0 r with n | _ | _
          · skip
            simp only [h2, not_false_eq_true, true_and, false_and, if_false, false_or, NumEnd.ok.injEq, or_false, and_false, not_true_eq_false, show ¬ (43 : Nat) = 45 by decide]
            by_cases hn : 9223372036854775808 ≤ n
            · rw [if_pos hn]
              constructor
              · intro h; cases h
              · rintro ⟨_, m, e, h, _⟩; omega
            · rw [if_neg hn]
              constructor
              · intro h; injection h with h; exact ⟨hr, n, rfl, by omega, h.symm⟩
              · rintro ⟨_, m, e, _, h⟩; rw [h, e]
          · simp [h2]
          · simp [h2]
      · rw [if_neg (show ¬ (c.toNat = 43 ∨ c.toNat = 45) from fun e => e.elim h2 h1)]
        rw [if_neg (by simp)]
        rcases hp : parseUintM 18446744073709551615 0 (c :: r) with n | _ | _
        · skip
          simp only [h1, h2, not_false_eq_true, true_and, false_and, if_false, false_or, NumEnd.ok.injEq]
          by_cases hn : 9223372036854775808 ≤ n
          · rw [if_pos hn]
            constructor
            · intro h; cases h
            · rintro ⟨m, e, h, _⟩; omega
          · rw [if_neg hn]
            constructor
            · intro h; injection h with h; exact ⟨n, rfl, by omega, h.symm⟩
            · rintro ⟨m, e, _, h⟩; rw [h, e]
        · simp [h1, h2]
        · simp [h1, h2]

/-- A text says a number just if it is read as one and that is written so. -/
theorem numS_iff (l : List UInt8) (v : Int) : numS l = some v ↔ parseIntB 64 l = .ok v ∧ itoa v = l := by
  rw [parseB]
  constructor
  · intro h
    unfold numS at h
    by_cases h1 : l.head? = some 45
    · rw [if_pos h1] at h
      by_cases h2 : l.length < 2 ∨ 20 < l.length ∨ l.tail.head? = some 48
      · rw [if_pos h2] at h; cases h
      · rw [if_neg h2] at h
        rcases l with _ | ⟨c, r⟩
        · cases h1
        · obtain rfl := Option.some.inj h1
          simp only [List.tail_cons] at h h2 ⊢
          have hr : r ≠ [] := by intro e; subst e; simp at h2
          cases hd : decV 0 r with
          | none => rw [hd] at h; cases h
          | some n =>
            rw [hd] at h
            simp only at h
            by_cases hn : n ≤ 9223372036854775808
            · rw [if_pos hn] at h
              obtain rfl := Option.some.inj h
              have ed := dec_decV _ r rfl n hr (fun e => absurd (.inr (.inr e)) h2) hd
              have hn0 : 1 ≤ n := by
                rcases Nat.eq_zero_or_pos n with rfl | h
                · exfalso
                  rw [dec_small (by decide)] at ed
                  exact h2 (.inr (.inr (by rw [← ed]; rfl)))
                · exact h
              exact ⟨.inl ⟨h1, hr, n, parse_of r 0 n hd (by omega), hn, rfl⟩, by rw [itoa_neg n hn0, ed]⟩
            · rw [if_neg hn] at h; cases h
    · rw [if_neg h1] at h
      by_cases h2 : l.length < 1 ∨ 19 < l.length ∨ (l.head? = some 48 ∧ 1 < l.length)
      · rw [if_pos h2] at h; cases h
      · rw [if_neg h2] at h
        have hl : l ≠ [] := by intro e; subst e; simp at h2
        cases hd : decV 0 l with
        | none => rw [hd] at h; cases h
        | some n =>
          rw [hd] at h
          simp only at h
          by_cases hn : n < 9223372036854775808
          · rw [if_pos hn] at h
            obtain rfl := Option.some.inj h
            have ed := dec_decV _ l rfl n hl (fun e => by have := List.length_pos_iff.2 hl; have : ¬ 1 < l.length := fun e2 => h2 (.inr (.inr ⟨e, e2⟩)); omega) hd
            obtain ⟨c, hc, hc1, hc2⟩ := dec_head_digit n
            rw [ed] at hc
            refine ⟨.inr (.inr ⟨hl, h1, ?_, n, parse_of l 0 n hd (by omega), hn, rfl⟩), by rw [itoa_nonneg, ed]⟩
            intro e
            rw [hc] at e
            have := congrArg UInt8.toNat (Option.some.inj e)
            have : (43 : UInt8).toNat = 43 := rfl
            omega
          · rw [if_neg hn] at h; cases h
  · rintro ⟨hp, hl⟩
    rcases hp with ⟨h1, hr, n, hp, hn, rfl⟩ | ⟨h1, hr, n, hp, hn, rfl⟩ | ⟨hl0, h1, h2, n, hp, hn, rfl⟩
    · have hv := parse_ok _ _ _ _ hp
      rcases Nat.eq_zero_or_pos n with rfl | hn0
      · exfalso
        have e : itoa (-((0 : Nat) : Int)) = decDigits 0 := itoa_nonneg 0
        rw [e, dec_small (by decide)] at hl
        rw [← hl] at h1
        exact absurd h1 (by decide)
      · rw [itoa_neg n hn0] at hl
        have et : l.tail = decDigits n := by rw [← hl]; rfl
        have hlen : l.length = (decDigits n).length + 1 := by rw [← hl]; rfl
        have := dec_len 19 n (by omega) (by decide)
        have h3 := List.length_pos_iff.2 (dec_ne n)
        unfold numS
        rw [if_pos h1, et, if_neg (by rintro (h | h | h); omega; omega; exact dec_head n hn0 h), decV_dec]
        simp only
        rw [if_pos hn]
    · exfalso
      rw [itoa_nonneg] at hl
      obtain ⟨c, hc, hc1, hc2⟩ := dec_head_digit n
      rw [hl, h1] at hc
      have := congrArg UInt8.toNat (Option.some.inj hc)
      have : (43 : UInt8).toNat = 43 := rfl
      omega
    · rw [itoa_nonneg] at hl
      subst hl
      have := dec_len 19 n (by omega) (by decide)
      have h3 := List.length_pos_iff.2 (dec_ne n)
      unfold numS
      rw [if_neg h1, if_neg ?_, decV_dec]
      · simp only
        rw [if_pos hn]
      · rintro (h | h | ⟨h, h'⟩)
        · omega
        · omega
        · rcases Nat.eq_zero_or_pos n with rfl | hn0
          · rw [dec_small (by decide)] at h'; simp at h'
          · exact dec_head n hn0 h
end Go.Proofs.YtghfaeapgghhlaaGreatDoor.Dt
