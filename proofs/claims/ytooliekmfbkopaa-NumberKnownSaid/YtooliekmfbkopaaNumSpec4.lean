/-
  Plain laws on Take and Put: what is put is taken, what is taken is put, sizes and order. No program in sight.
-/
import Derived.Test.YtooliekmfbkopaaNumSpec2
import Derived.Laws.Strings
namespace Go.Proofs.Ytooliekmfbkopaa.Num
open Go

/-- How many bytes bear their mark, so many at most. -/
def lead : Nat → List UInt8 → Nat
  | 0, _ => 0
  | _ + 1, [] => 0
  | f + 1, c :: r => if 128 ≤ c.toNat then lead f r + 1 else 0
theorem lead_spec : ∀ (f : Nat) (l : List UInt8), lead f l ≤ f ∧ lead f l ≤ l.length ∧ (∀ b ∈ l.take (lead f l), 128 ≤ b.toNat) ∧ (lead f l < l.length → lead f l < f → (l.getD (lead f l) 0).toNat < 128)
  | 0, l => by simp [lead]
  | f + 1, [] => by simp [lead]
  | f + 1, c :: r => by
    obtain ⟨h1, h2, h3, h4⟩ := lead_spec f r
    by_cases hc : 128 ≤ c.toNat
    · simp only [lead, if_pos hc, List.length_cons, List.take_succ_cons, List.mem_cons, List.getD_cons_succ]
      refine ⟨by omega, by omega, ?_, fun a b => h4 (by omega) (by omega)⟩
      rintro b (rfl | hb)
      · exact hc
      · exact h3 b hb
    · simp only [lead, if_neg hc, List.length_cons, List.take_zero, List.getD_cons_zero]
      exact ⟨by omega, by omega, (fun b hb => by cases hb), (fun _ _ => by omega)⟩

theorem takeR_cases (l : List UInt8) : takeR l = (0, 0, 10) ∨ takeR l = (0, 0, 11) ∨
    ∃ n k, takeR l = (n, k, 0) ∧ 1 ≤ k ∧ k ≤ l.length ∧ k ≤ 9 ∧ n < 18446744073709551616 ∧ putL n = l.take k := by
  obtain ⟨h1, h2, h3, h4⟩ := lead_spec 8 l
  obtain ⟨a, b⟩ := refTake_at l (lead 8 l) h1 h2 h3 h4
  generalize lead 8 l = k at *
  rcases Nat.lt_or_ge k l.length with h | h
  · have hb := b h _ rfl
    have h5 := dv_lt (l.take k)
    have h6 : dv (l.take k) < 128 ^ 8 := Nat.lt_of_lt_of_le h5 (Nat.pow_le_pow_right (by omega) (by simp; omega))
    have h7 := (l.getD k 0).toNat_lt
    generalize hm : (if k = 8 then 256 * dv (l.take k) + (l.getD k 0).toNat else 128 * dv (l.take k) + (l.getD k 0).toNat % 128) = m at *
    have hm64 : m < 18446744073709551616 := by split at hm <;> omega
    by_cases hp : putL m = l.take (k + 1)
    · rw [if_pos hp] at hb
      exact Or.inr (Or.inr ⟨m, k + 1, hb, by omega, by omega, by omega, hm64, hp⟩)
    · rw [if_neg hp] at hb
      exact Or.inr (Or.inl hb)
  · exact Or.inl (a (by omega))

theorem hi_toNat (d : Nat) (h : d < 128) : (hi d).toNat = d + 128 := by simp [hi]; omega

theorem dv_dg : ∀ (s v j : Nat), v + j ≤ s → dv ((dg v j).map hi) = v := by
  intro s
  induction s with
  | zero => intro v j h; obtain rfl : v = 0 := by omega
            obtain rfl : j = 0 := by omega
            simp [dg_zero, dv]
  | succ s ih =>
    intro v j h
    by_cases hz : 0 < v ∨ 0 < j
    · rw [dg_step v j hz, List.map_append, List.map_cons, List.map_nil, dv_snoc, ih (v / 128) (j - 1) (by omega), hi_toNat _ (by omega)]
      omega
    · obtain rfl : v = 0 := by omega
      obtain rfl : j = 0 := by omega
      simp [dg_zero, dv]

/-- A short form: marked digits, and a last byte. -/
theorem putL_parts (n : Nat) (h : n < 18446744073709551616) : ∃ (D : List UInt8) (c : UInt8), putL n = D ++ [c] ∧ (∀ b ∈ D, 128 ≤ b.toNat) ∧ D.length ≤ 8 ∧
    (D.length < 8 → c.toNat < 128) ∧ n = (if D.length = 8 then 256 * dv D + c.toNat else 128 * dv D + c.toNat % 128) := by
  have hmark : ∀ (v j : Nat), ∀ b ∈ (dg v j).map hi, 128 ≤ b.toNat := by
    intro v j b hb
    obtain ⟨d, hd, rfl⟩ := List.mem_map.1 hb
    rw [hi_toNat d (dg_lt _ v j (Nat.le_refl _) d hd)]
    omega
  rcases Nat.lt_or_ge n 72057594037927936 with h1 | h1
  · have hl := putL_len_small n h1
    refine ⟨(dg (n / 128) 0).map hi, UInt8.ofNat (n % 128), by unfold putL; rw [if_pos h1], hmark _ _, by simp; omega, fun _ => by simp; omega, ?_⟩
    rw [if_neg (by simp; omega), dv_dg _ _ _ (Nat.le_refl _)]
    simp
    omega
  · have hl := (dg_len 8 (n / 256) (by omega)).2
    refine ⟨(dg (n / 256) 8).map hi, UInt8.ofNat (n % 256), by unfold putL; rw [if_neg (by omega)], hmark _ _, by simp; omega, fun h => by simp [hl] at h, ?_⟩
    rw [if_pos (by simpa using hl), dv_dg _ _ _ (Nat.le_refl _)]
    simp
    omega

theorem takeR_put (n : Nat) (more : List UInt8) (h : n < 18446744073709551616) : takeR (putL n ++ more) = (n, (putL n).length, 0) := by
  obtain ⟨D, c, hp, hD, hD8, hc, hn⟩ := putL_parts n h
  have e : putL n ++ more = D ++ c :: more := by rw [hp]; simp
  have hat := refTake_at (D ++ c :: more) D.length hD8 (by simp) (by simpa using hD) (fun _ h8 => by simpa [List.getD] using hc h8)
  have hb := hat.2 (by simp) n (by simpa [List.getD] using hn)
  rw [e, hb, if_pos (by rw [hp, show D ++ c :: more = (D ++ [c]) ++ more by simp, List.take_left' (by simp)]), hp]
  simp

theorem takeR_cut (n i : Nat) (h : n < 18446744073709551616) (hi : i < (putL n).length) : takeR ((putL n).take i) = (0, 0, 10) := by
  obtain ⟨D, c, hp, hD, hD8, hc, hn⟩ := putL_parts n h
  rw [hp] at hi ⊢
  simp only [List.length_append, List.length_singleton] at hi
  have e : (D ++ [c]).take i = D.take i := by rw [List.take_append_of_le_length (by omega)]
  rw [e]
  have hl : (D.take i).length = i := by simp; omega
  exact (refTake_at (D.take i) i (by omega) (by omega) (fun b hb => hD b (List.mem_of_mem_take (List.mem_of_mem_take hb))) (fun h => by omega)).1 hl.symm

theorem dg_big : ∀ (j m : Nat), (dg m 0).length ≤ j → m < 128 ^ j := by
  intro j
  induction j with
  | zero =>
    intro m h
    rcases Nat.eq_zero_or_pos m with h0 | h0
    · subst h0; simp
    · rw [dg_step m 0 (Or.inl h0)] at h; simp at h
  | succ j ih =>
    intro m h
    rcases Nat.eq_zero_or_pos m with h0 | h0
    · subst h0; exact Nat.pow_pos (by omega)
    · rw [dg_step m 0 (Or.inl h0)] at h
      simp only [List.length_append, List.length_singleton, Nat.zero_sub] at h
      have := ih (m / 128) (by omega)
      rw [Nat.pow_succ]
      omega

theorem size_iff (a n : Nat) (h : a < 18446744073709551616) (h1 : 1 ≤ n) (h8 : n ≤ 8) : (putL a).length ≤ n ↔ a < 128 ^ n := by
  have hpow : 128 ^ n ≤ 128 ^ 8 := Nat.pow_le_pow_right (by omega) h8
  obtain ⟨j, rfl⟩ : ∃ j, n = j + 1 := ⟨n - 1, by omega⟩
  rcases Nat.lt_or_ge a 72057594037927936 with hs | hs
  · have hl := (putL_len_small a hs).1
    constructor
    · intro h2
      have := dg_big j (a / 128) (by omega)
      rw [Nat.pow_succ]; omega
    · intro h2
      rw [Nat.pow_succ] at h2
      have := (dg_len j (a / 128) (by omega)).1
      omega
  · have hl := putL_len_large a hs h
    constructor
    · intro h2; omega
    · intro h2; omega

theorem size_mono (a b : Nat) (ha : a < 18446744073709551616) (hb : b < 18446744073709551616) (h : a ≤ b) : (putL a).length ≤ (putL b).length := by
  have h1 := putL_len a ha
  have h2 := putL_len b hb
  rcases Nat.lt_or_ge (putL b).length 9 with h9 | h9
  · exact (size_iff a _ ha h2.1 (by omega)).2 (Nat.lt_of_le_of_lt h ((size_iff b _ hb h2.1 (by omega)).1 (Nat.le_refl _)))
  · omega

/-! ### the order of fixed bytes -/
theorem be_inj : ∀ (k a b : Nat), a < 256 ^ k → b < 256 ^ k → be k a = be k b → a = b
  | 0, a, b, ha, hb, _ => by simp at ha hb; omega
  | k + 1, a, b, ha, hb, h => by
    rw [Nat.pow_succ] at ha hb
    simp only [be] at h
    obtain ⟨h1, h2⟩ := List.append_inj h (by rw [be_length, be_length])
    have h3 := be_inj k (a / 256) (b / 256) (by omega) (by omega) h1
    have h4 : (UInt8.ofNat (a % 256)).toNat = (UInt8.ofNat (b % 256)).toNat := by rw [List.cons.inj h2 |>.1]
    simp at h4
    omega
theorem bytesLess_append : ∀ (x x' y y' : List UInt8), x.length = x'.length → Op.bytesLess (x ++ y) (x' ++ y') = (Op.bytesLess x x' || (x == x' && Op.bytesLess y y'))
  | [], [], y, y', _ => by cases y' <;> simp [Op.bytesLess]
  | a :: x, b :: x', y, y', h => by
    have ih := bytesLess_append x x' y y' (by simpa using h)
    simp only [List.cons_append, Op.bytesLess, ih, List.cons_beq_cons]
    cases decide (a < b) <;> cases a == b <;> simp

theorem be_less : ∀ (k a b : Nat), a < 256 ^ k → b < 256 ^ k → Op.bytesLess (be k a) (be k b) = decide (a < b)
  | 0, a, b, ha, hb => by
    simp at ha hb
    subst ha hb
    simp [be, Op.bytesLess]
  | k + 1, a, b, ha, hb => by
    rw [Nat.pow_succ] at ha hb
    have ih := be_less k (a / 256) (b / 256) (by omega) (by omega)
    have e1 : (be k (a / 256) == be k (b / 256)) = decide (a / 256 = b / 256) := by
      have hinj := be_inj k (a / 256) (b / 256) (by omega) (by omega)
      by_cases h : a / 256 = b / 256
      · rw [h]; simp
      · rw [decide_eq_false h]
        exact beq_eq_false_iff_ne.2 (fun he => h (hinj he))
    simp only [be]
    rw [bytesLess_append _ _ _ _ (by rw [be_length, be_length]), ih, e1]
    simp only [Op.bytesLess, Bool.and_false, Bool.or_false]
    rw [Bool.eq_iff_iff]
    simp only [Bool.or_eq_true, Bool.and_eq_true, decide_eq_true_eq, UInt8.lt_iff_toNat_lt, UInt8.toNat_ofNat']
    omega
end Go.Proofs.Ytooliekmfbkopaa.Num
