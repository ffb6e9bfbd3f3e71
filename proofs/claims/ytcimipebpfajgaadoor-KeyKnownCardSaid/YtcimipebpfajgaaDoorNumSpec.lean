/-
  Plain laws on numbers as bytes: no program in sight.
-/
import Derived.Laws.BitsAllLaws
namespace Go.Proofs.YtcimipebpfajgaaDoor.Num
open Go

/-- Four bytes, the highest first. -/
def be4 (n : Nat) : List UInt8 := [UInt8.ofNat (n / 16777216), UInt8.ofNat (n / 65536), UInt8.ofNat (n / 256), UInt8.ofNat n]
/-- Eight bytes, the highest first. -/
def be8 (n : Nat) : List UInt8 := be4 (n / 4294967296) ++ be4 (n % 4294967296)

theorem be4_length (n : Nat) : (be4 n).length = 4 := rfl
theorem be8_length (n : Nat) : (be8 n).length = 8 := rfl

def val4 (l : List UInt8) : Nat := (l.getD 0 0).toNat * 16777216 + (l.getD 1 0).toNat * 65536 + (l.getD 2 0).toNat * 256 + (l.getD 3 0).toNat
def val8 (l : List UInt8) : Nat := val4 l * 4294967296 + val4 (l.drop 4)

theorem val4_lt (l : List UInt8) : val4 l < 4294967296 := by
  have h0 := (l.getD 0 0).toNat_lt; have h1 := (l.getD 1 0).toNat_lt; have h2 := (l.getD 2 0).toNat_lt; have h3 := (l.getD 3 0).toNat_lt
  unfold val4; omega
theorem val8_lt (l : List UInt8) : val8 l < 18446744073709551616 := by
  have h0 := val4_lt l; have h1 := val4_lt (l.drop 4)
  unfold val8; omega

theorem or_u32 (a b k : Nat) (ha : a < 4294967296) (hk : a % 2 ^ k = 0) (hb : b < 2 ^ k) (hb' : b < 4294967296) : bits .or .u32 (a : Int) (b : Int) = ((a + b : Nat) : Int) := by
  rw [u32_or_nat a b ha hb', nat_join k a b hk hb]

/-- What TakeFour reckons, in the walk's own form. -/
theorem four_bytes (a b c d : UInt8) :
    bits .or .u32 (bits .or .u32 (bits .or .u32 ((a.toNat : Int) % 4294967296 * 16777216 % 4294967296) ((b.toNat : Int) % 4294967296 * 65536 % 4294967296)) ((c.toNat : Int) % 4294967296 * 256 % 4294967296)) ((d.toNat : Int) % 4294967296)
      = ((a.toNat * 16777216 + b.toNat * 65536 + c.toNat * 256 + d.toNat : Nat) : Int) := by
  have ha := a.toNat_lt; have hb := b.toNat_lt; have hc := c.toNat_lt; have hd := d.toNat_lt
  have e1 : (a.toNat : Int) % 4294967296 * 16777216 % 4294967296 = ((a.toNat * 16777216 : Nat) : Int) := by omega
  have e2 : (b.toNat : Int) % 4294967296 * 65536 % 4294967296 = ((b.toNat * 65536 : Nat) : Int) := by omega
  have e3 : (c.toNat : Int) % 4294967296 * 256 % 4294967296 = ((c.toNat * 256 : Nat) : Int) := by omega
  have e4 : (d.toNat : Int) % 4294967296 = (d.toNat : Int) := by omega
  rw [e1, e2, e3, e4, or_u32 _ _ 24 (by omega) (by omega) (by omega) (by omega), or_u32 _ _ 16 (by omega) (by omega) (by omega) (by omega), or_u32 _ _ 8 (by omega) (by omega) (by omega) (by omega)]

theorem eight_bytes (a b : Nat) (ha : a < 4294967296) (hb : b < 4294967296) :
    bits .or .u64 (IntKind.u64.wrap (IntKind.u64.wrap (a : Int) * 4294967296)) (IntKind.u64.wrap (b : Int)) = ((a * 4294967296 + b : Nat) : Int) := by
  simp only [IntKind.wrap_u64]
  have e1 : (a : Int) % 18446744073709551616 * 4294967296 % 18446744073709551616 = ((a * 4294967296 : Nat) : Int) := by omega
  have e2 : (b : Int) % 18446744073709551616 = (b : Int) := by omega
  rw [e1, e2, u64_or_nat _ _ (by omega) (by omega), nat_join 32 _ _ (by omega) (by omega)]

theorem be8_eq (n : Int) (h0 : 0 ≤ n) (h1 : n < 18446744073709551616) : be4 (n / 4294967296 % 4294967296).toNat ++ be4 (n % 4294967296).toNat = be8 n.toNat := by
  unfold be8
  rw [show (n / 4294967296 % 4294967296).toNat = n.toNat / 4294967296 by omega, show (n % 4294967296).toNat = n.toNat % 4294967296 by omega]

/-- Digits to the base 128, the highest first, so many at least. -/
def dg (n least : Nat) : List Nat :=
  if n = 0 ∧ least = 0 then [] else dg (n / 128) (least - 1) ++ [n % 128]
termination_by n + least
decreasing_by omega

theorem dg_zero : dg 0 0 = [] := by rw [dg]; simp
theorem dg_step (n least : Nat) (h : 0 < n ∨ 0 < least) : dg n least = dg (n / 128) (least - 1) ++ [n % 128] := by
  rw [dg, if_neg (by omega)]

theorem dg_len_le : ∀ (s j n k : Nat), n + k ≤ s → n < 128 ^ j → (dg n k).length ≤ j + k := by
  intro s
  induction s with
  | zero =>
    intro j n k h _
    obtain rfl : n = 0 := by omega
    obtain rfl : k = 0 := by omega
    simp [dg_zero]
  | succ s ih =>
    intro j n k h hn
    by_cases hz : 0 < n ∨ 0 < k
    · rw [dg_step n k hz]
      simp only [List.length_append, List.length_singleton]
      rcases j with _ | j
      · obtain rfl : n = 0 := by simp at hn; omega
        have := ih 0 (0 / 128) (k - 1) (by omega) (by simp)
        omega
      · have := ih j (n / 128) (k - 1) (by omega) (by rw [Nat.pow_succ] at hn; omega)
        omega
    · obtain rfl : n = 0 := by omega
      obtain rfl : k = 0 := by omega
      simp [dg_zero]

theorem dg_len_64 (n k : Nat) (h : n < 18446744073709551616) : (dg n k).length ≤ 10 + k := dg_len_le (n + k) 10 n k (Nat.le_refl _) (by omega)

/-- A digit that is not the last one. -/
def hi (d : Nat) : UInt8 := UInt8.ofNat (d + 128)

/-- A number's short form. -/
def putL (n : Nat) : List UInt8 :=
  if n < 72057594037927936 then (dg (n / 128) 0).map hi ++ [UInt8.ofNat (n % 128)] else (dg (n / 256) 8).map hi ++ [UInt8.ofNat (n % 256)]

theorem hi_or (m : Nat) : bits .or .u8 ((m : Int) % 256) 128 = ((hi (m % 128)).toNat : Int) := by
  rw [show ((m : Int) % 256) = ((m % 256 : Nat) : Int) by omega, show (128 : Int) = ((128 : Nat) : Int) from rfl, u8_or_nat _ _ (by omega) (by omega)]
  congr 1
  simp only [hi, UInt8.toNat_ofNat']
  rw [Nat.or_comm, show (128 : Nat) ||| m % 256 = m % 128 + 128 from ?_]
  · omega
  · have h1 : m % 256 = m / 128 % 2 * 128 + m % 128 := by omega
    rcases Nat.mod_two_eq_zero_or_one (m / 128) with h2 | h2
    · rw [h1, h2, Nat.zero_mul, Nat.zero_add, nat_join 7 128 (m % 128) (by omega) (by omega)]; omega
    · rw [h1, h2, Nat.one_mul, ← nat_join 7 128 (m % 128) (by omega) (by omega), ← Nat.or_assoc, Nat.or_self, nat_join 7 128 (m % 128) (by omega) (by omega)]; omega

theorem and_127 (n : Nat) (h : n < 18446744073709551616) : bits .and .u64 (n : Int) 127 % 256 = ((UInt8.ofNat (n % 128)).toNat : Int) := by
  rw [show (127 : Int) = ((127 : Nat) : Int) from rfl, u64_and_nat n 127 h (by omega), nat_mask7]
  simp only [UInt8.toNat_ofNat']
  omega

/-- How Put's second loop goes on. -/
theorem put_step {n m k : Nat} {L : List UInt8} (hm : 0 < m) (hk : 1 ≤ k) (hlt : m < 128 ^ (k - 1)) (hp : (dg m 0).map hi ++ L = putL n) :
    2 ≤ k ∧ m / 128 < 128 ^ (k - 1 - 1) ∧ (dg (m / 128) 0).map hi ++ (hi (m % 128) :: L) = putL n := by
  have h2 : 2 ≤ k := by
    rcases Nat.lt_or_ge k 2 with h | h
    · obtain rfl : k = 1 := by omega
      simp at hlt; omega
    · exact h
  refine ⟨h2, ?_, ?_⟩
  · obtain ⟨j, rfl⟩ : ∃ j, k = j + 2 := ⟨k - 2, by omega⟩
    simp only [Nat.add_sub_cancel, show j + 2 - 1 = j + 1 from rfl] at hlt ⊢
    rw [Nat.pow_succ] at hlt
    omega
  · rw [← hp, dg_step m 0 (Or.inl hm)]
    simp

/-- How Put's first loop goes on. -/
theorem put_step8 {n m k : Nat} {L : List UInt8} (hk : 1 ≤ k) (hlt : m < 128 ^ k) (hp : (dg m k).map hi ++ L = putL n) :
    m / 128 < 128 ^ (k - 1) ∧ (dg (m / 128) (k - 1)).map hi ++ (hi (m % 128) :: L) = putL n := by
  refine ⟨?_, ?_⟩
  · obtain ⟨j, rfl⟩ : ∃ j, k = j + 1 := ⟨k - 1, by omega⟩
    simp only [Nat.add_sub_cancel]
    rw [Nat.pow_succ] at hlt
    omega
  · rw [← hp, dg_step m k (Or.inr hk)]
    simp

theorem dg_len : ∀ (k m : Nat), m < 128 ^ k → (dg m 0).length ≤ k ∧ (dg m k).length = k := by
  intro k
  induction k with
  | zero =>
    intro m hm
    obtain rfl : m = 0 := by simp at hm; omega
    simp [dg_zero]
  | succ k ih =>
    intro m hm
    have h' : m / 128 < 128 ^ k := by rw [Nat.pow_succ] at hm; omega
    obtain ⟨h1, h2⟩ := ih (m / 128) h'
    refine ⟨?_, ?_⟩
    · rcases Nat.eq_zero_or_pos m with h | h
      · subst h; simp [dg_zero]
      · rw [dg_step m 0 (Or.inl h)]; simpa using h1
    · rw [dg_step m (k + 1) (Or.inr (by omega))]; simpa using h2

theorem putL_len_small (n : Nat) (h : n < 72057594037927936) : (putL n).length = (dg (n / 128) 0).length + 1 ∧ (putL n).length ≤ 8 := by
  have h1 := (dg_len 7 (n / 128) (by omega)).1
  have e : (putL n).length = (dg (n / 128) 0).length + 1 := by
    unfold putL
    rw [if_pos h]
    simp
  omega
theorem putL_len_large (n : Nat) (h : 72057594037927936 ≤ n) (h' : n < 18446744073709551616) : (putL n).length = 9 := by
  have h1 := (dg_len 8 (n / 256) (by omega)).2
  unfold putL
  rw [if_neg (by omega)]
  simp [h1]
theorem putL_len (n : Nat) (h' : n < 18446744073709551616) : 1 ≤ (putL n).length ∧ (putL n).length ≤ 9 := by
  rcases Nat.lt_or_ge n 72057594037927936 with h | h
  · have := putL_len_small n h; omega
  · have := putL_len_large n h h'; omega

/-- Take's loop: what has been read, how many bytes, whether an end was met. -/
def tk : List UInt8 → Nat → Nat → Nat × Nat × Bool
  | [], n, k => (n, k, false)
  | c :: r, n, k => if k + 1 = 9 then (n * 256 + c.toNat, 9, true) else if c.toNat < 128 then (n * 128 + c.toNat, k + 1, true) else tk r (n * 128 + c.toNat % 128) (k + 1)

def takeR (l : List UInt8) : Nat × Nat × Nat :=
  match tk l 0 0 with
  | (_, _, false) => (0, 0, 10)
  | (n, k, true) => if (putL n).length = k then (n, k, 0) else (0, 0, 11)

theorem take_8 (m : Nat) (c : UInt8) (h : m < 128 ^ 8) : bits .or .u64 (IntKind.u64.wrap ((m : Int) * 256)) (IntKind.u64.wrap (c.toNat : Int)) = ((m * 256 + c.toNat : Nat) : Int) := by
  have hc := c.toNat_lt
  rw [IntKind.wrap_u64, IntKind.wrap_u64, show ((m : Int) * 256 % 18446744073709551616) = ((m * 256 : Nat) : Int) by omega, show ((c.toNat : Int) % 18446744073709551616) = ((c.toNat : Nat) : Int) by omega,
    u64_or_nat _ _ (by omega) (by omega), nat_join 8 _ _ (by omega) (by omega)]
theorem take_7 (m : Nat) (c : UInt8) (h : m < 128 ^ 8) (hc : c.toNat < 128) : bits .or .u64 (IntKind.u64.wrap ((m : Int) * 128)) (c.toNat : Int) = ((m * 128 + c.toNat : Nat) : Int) := by
  rw [IntKind.wrap_u64, show ((m : Int) * 128 % 18446744073709551616) = ((m * 128 : Nat) : Int) by omega,
    u64_or_nat _ _ (by omega) (by omega), nat_join 7 _ _ (by omega) (by omega)]
theorem take_7a (m : Nat) (c : UInt8) (h : m < 128 ^ 8) : bits .or .u64 (IntKind.u64.wrap ((m : Int) * 128)) (IntKind.u64.wrap (bits .and .u8 (c.toNat : Int) 127)) = ((m * 128 + c.toNat % 128 : Nat) : Int) := by
  have hc := c.toNat_lt
  rw [IntKind.wrap_u64, IntKind.wrap_u64, show (127 : Int) = ((127 : Nat) : Int) from rfl, u8_and_nat _ 127 hc (by omega), nat_mask7, show ((m : Int) * 128 % 18446744073709551616) = ((m * 128 : Nat) : Int) by omega,
    show (((c.toNat % 128 : Nat) : Int) % 18446744073709551616) = ((c.toNat % 128 : Nat) : Int) by omega,
    u64_or_nat _ _ (by omega) (by omega), nat_join 7 _ _ (by omega) (by omega)]

theorem drop_at {l : List UInt8} {k : Nat} {c : UInt8} (hc : l[k]? = some c) : l.drop k = c :: l.drop (k + 1) := by
  obtain ⟨h, rfl⟩ := List.getElem?_eq_some_iff.1 hc
  exact List.drop_eq_getElem_cons h

theorem pow_le8 {m k : Nat} (h : m < 128 ^ k) (hk : k ≤ 8) : m < 128 ^ 8 := Nat.lt_of_lt_of_le h (Nat.pow_le_pow_right (by omega) hk)

theorem takeR_8 {l : List UInt8} {m : Nat} {c : UInt8} (h : tk (l.drop 8) m 8 = tk l 0 0) (hc : l[8]? = some c) :
    takeR l = if (putL (m * 256 + c.toNat)).length = 9 then (m * 256 + c.toNat, 9, 0) else (0, 0, 11) := by
  rw [drop_at hc, tk, if_pos rfl] at h
  simp only [takeR, ← h]
theorem takeR_lo {l : List UInt8} {m k : Nat} {c : UInt8} (h : tk (l.drop k) m k = tk l 0 0) (hc : l[k]? = some c) (hk : k < 8) (hlt : c.toNat < 128) :
    takeR l = if (putL (m * 128 + c.toNat)).length = k + 1 then (m * 128 + c.toNat, k + 1, 0) else (0, 0, 11) := by
  rw [drop_at hc, tk, if_neg (by omega), if_pos hlt] at h
  simp only [takeR, ← h]
theorem tk_go {l : List UInt8} {m k : Nat} {c : UInt8} (h : tk (l.drop k) m k = tk l 0 0) (hc : l[k]? = some c) (hk : k < 8) (hlt : ¬ c.toNat < 128) (hm : m < 128 ^ k) :
    tk (l.drop (k + 1)) (m * 128 + c.toNat % 128) (k + 1) = tk l 0 0 ∧ m * 128 + c.toNat % 128 < 128 ^ (k + 1) ∧ 128 ≤ (l.getD (k + 1 - 1) 0).toNat := by
  rw [drop_at hc, tk, if_neg (by omega), if_neg hlt] at h
  refine ⟨h, ?_, ?_⟩
  · rw [Nat.pow_succ]; omega
  · simp [List.getD, hc]; omega
theorem takeR_short {l : List UInt8} {m k : Nat} (h : tk (l.drop k) m k = tk l 0 0) (hk : l.length ≤ k) : takeR l = (0, 0, 10) := by
  rw [List.drop_eq_nil_of_le hk, tk] at h
  simp only [takeR, ← h]

/-- So many bytes, the highest first. -/
def be : Nat → Nat → List UInt8
  | 0, _ => []
  | k + 1, n => be k (n / 256) ++ [UInt8.ofNat (n % 256)]
theorem be_length : ∀ k n, (be k n).length = k
  | 0, _ => rfl
  | k + 1, n => by simp [be, be_length k]
theorem be_four (n : Nat) : be 4 n = be4 n := by
  simp only [be, be4, List.nil_append, List.cons_append, Nat.div_div_eq_div_mul]
  simp only [List.cons.injEq, and_true]
  refine ⟨?_, ?_, ?_, ?_⟩ <;> (apply UInt8.toNat_inj.1; simp)
theorem be_add (j k n : Nat) : be (j + k) n = be j (n / 256 ^ k) ++ be k n := by
  induction k generalizing n with
  | zero => simp [be]
  | succ k ih =>
    rw [← Nat.add_assoc, be, ih, be, ← List.append_assoc, Nat.div_div_eq_div_mul, Nat.pow_succ, Nat.mul_comm 256]
theorem be4_mod (n : Nat) : be4 (n % 4294967296) = be4 n := by
  simp only [be4, List.cons.injEq, and_true]
  refine ⟨?_, ?_, ?_, ?_⟩ <;> (apply UInt8.toNat_inj.1; first | (simp; done) | (simp; omega))
theorem be_eight (n : Nat) : be 8 n = be8 n := by
  rw [be_add 4 4, be_four, be_four, be8, be4_mod]

/-- The number of bytes, the highest first. -/
def val (l : List UInt8) : Nat := l.foldl (fun n b => 256 * n + b.toNat) 0
theorem val_snoc (l : List UInt8) (c : UInt8) : val (l ++ [c]) = 256 * val l + c.toNat := by simp [val]
theorem val_four (l : List UInt8) (h : 4 ≤ l.length) : val (l.take 4) = val4 l := by
  match l, h with
  | a :: b :: c :: d :: r, _ => simp [val, val4, List.getD]; omega
theorem val_eight (l : List UInt8) (h : 8 ≤ l.length) : val (l.take 8) = val8 l := by
  match l, h with
  | a :: b :: c :: d :: e :: f :: g :: h :: r, _ => simp [val, val8, val4, List.getD]; omega
theorem val_lt (l : List UInt8) : val l < 256 ^ l.length := by
  obtain ⟨r, rfl⟩ : ∃ r, l = r.reverse := ⟨l.reverse, by simp⟩
  induction r with
  | nil => simp [val]
  | cons c r ih =>
    rw [List.reverse_cons, val_snoc]
    have := c.toNat_lt
    simp only [List.length_append, List.length_singleton, Nat.pow_succ] at ih ⊢
    omega
theorem take_snoc {l : List UInt8} {k : Nat} {c : UInt8} (h : l[k]? = some c) : l.take (k + 1) = l.take k ++ [c] := by
  obtain ⟨h', rfl⟩ := List.getElem?_eq_some_iff.1 h
  exact List.take_succ_eq_append_getElem h'

theorem dg_lt : ∀ (s n k : Nat), n + k ≤ s → ∀ d ∈ dg n k, d < 128 := by
  intro s
  induction s with
  | zero =>
    intro n k h d hd
    obtain rfl : n = 0 := by omega
    obtain rfl : k = 0 := by omega
    simp [dg_zero] at hd
  | succ s ih =>
    intro n k h d hd
    by_cases hz : 0 < n ∨ 0 < k
    · rw [dg_step n k hz, List.mem_append] at hd
      rcases hd with hd | hd
      · exact ih (n / 128) (k - 1) (by omega) d hd
      · simp at hd; omega
    · obtain rfl : n = 0 := by omega
      obtain rfl : k = 0 := by omega
      simp [dg_zero] at hd

/-- Digits, the first k of which bear their mark. -/
def marked (D : List Nat) (k : Nat) : List UInt8 := (D.take k).map hi ++ (D.drop k).map UInt8.ofNat
theorem marked_zero (D : List Nat) : marked D 0 = D.map UInt8.ofNat := by simp [marked]
theorem marked_all (D : List Nat) (k : Nat) (h : D.length ≤ k) : marked D k = D.map hi := by
  simp [marked, List.take_of_length_le h, List.drop_eq_nil_of_le h]
theorem marked_length (D : List Nat) (k : Nat) : (marked D k).length = D.length := by
  simp [marked]; omega
theorem marked_at (D : List Nat) (k : Nat) (h : k < D.length) : (marked D k)[k]? = some (UInt8.ofNat D[k]) := by
  simp only [marked]
  rw [List.getElem?_append_right (by simp; omega)]
  simp [show min k D.length = k by omega, h]
theorem marked_set (D : List Nat) (k : Nat) (h : k < D.length) : (marked D k).set k (hi D[k]) = marked D (k + 1) := by
  simp only [marked]
  have e : k - ((D.take k).map hi).length = 0 := by simp; omega
  rw [List.set_append_right _ _ (by simp; omega), e, List.drop_eq_getElem_cons h, List.take_succ_eq_append_getElem h]
  simp only [List.map_cons, List.set_cons_zero, List.map_append, List.map_nil, List.append_assoc, List.cons_append, List.nil_append]
theorem putL_small (n : Nat) (h : n < 72057594037927936) : marked (dg n 1) ((dg n 1).length - 1) = putL n := by
  have e : dg n 1 = dg (n / 128) 0 ++ [n % 128] := dg_step n 1 (Or.inr (by omega))
  unfold putL
  rw [if_pos h, e]
  simp [marked]
theorem putL_large (n : Nat) (h : 72057594037927936 ≤ n) : marked (dg (n / 256) 8) (dg (n / 256) 8).length ++ [UInt8.ofNat (n % 256)] = putL n := by
  unfold putL
  rw [if_neg (by omega), marked_all _ _ (Nat.le_refl _)]
end Go.Proofs.YtcimipebpfajgaaDoor.Num
