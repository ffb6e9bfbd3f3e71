/-
  Keys of rows: plain laws, no program in sight.
-/
import Derived.Test.YtcimipebpfajgaaDoorOrd0
import Derived.Test.YtcimipebpfajgaaDoorNumSpec
import Derived.Lib.Replace
namespace Go.Proofs.YtcimipebpfajgaaDoor.Dt
open Go.RowKit Go.Proofs.YtcimipebpfajgaaDoor.By

def nullV : V := ⟨0, 0, ByteArray.empty⟩
/-- A text's bytes, each 0 followed by 255. -/
def esc : List UInt8 → List UInt8
  | [] => []
  | c :: l => if c = 0 then 0 :: 255 :: esc l else c :: esc l
theorem esc_len : ∀ l, l.length ≤ (esc l).length ∧ (esc l).length ≤ 2 * l.length
  | [] => ⟨Nat.le_refl _, Nat.le_refl _⟩
  | c :: l => by
    have := esc_len l
    unfold esc
    split <;> simp only [List.length_cons] <;> omega
/-- A number, as it stands in a key. -/
def turnK (n : Int) : Nat := (n + 9223372036854775808).toNat
/-- The key of a value that may be. -/
def oneK (v : V) : List UInt8 := if v.k = 1 then 2 :: Num.be8 (turnK v.n) else if v.k = 2 ∨ v.k = 3 then UInt8.ofNat (v.k + 1) :: (esc v.s.data.toList ++ [0, 0]) else [1]
/-- The first value that may not be, and why. -/
def errK : List V → Nat
  | [] => 0
  | v :: l => if checkV v = 0 then errK l else checkV v
/-- The key of a row. -/
def allK (l : List V) : List UInt8 := l.flatMap oneK
theorem errK_zero : ∀ {l : List V}, errK l = 0 ↔ ∀ v ∈ l, checkV v = 0
  | [] => by simp [errK]
  | v :: l => by
    unfold errK
    have := @errK_zero l
    by_cases h : checkV v = 0
    · rw [if_pos h, this]; simp [h]
    · rw [if_neg h]; simp [h]
theorem errK_take {l : List V} {k : Nat} {v : V} (h : ∀ u ∈ l.take k, checkV u = 0) (hv : l[k]? = some v) (hc : checkV v ≠ 0) : errK l = checkV v := by
  induction l generalizing k with
  | nil => simp at hv
  | cons u l ih =>
    cases k with
    | zero => simp at hv; subst hv; unfold errK; rw [if_neg hc]
    | succ k =>
      unfold errK
      rw [if_pos (h u (by simp))]
      exact ih (k := k) (fun x hx => h x (by rw [List.take_succ_cons]; exact List.mem_cons_of_mem _ hx)) (by simpa using hv)
theorem oneK_len {v : V} (h : checkV v = 0) : (oneK v).length ≤ 2003 := by
  unfold oneK
  rcases kind_of h with ⟨h0, _, _⟩ | ⟨h1, _⟩ | ⟨h2, _, hs⟩
  · rw [if_neg (by omega), if_neg (by omega)]; simp
  · rw [if_pos h1]; simp [Num.be8_length]
  · rw [if_neg (by omega), if_pos h2]
    have := (esc_len v.s.data.toList).2
    have e : v.s.data.toList.length = v.s.size := by rw [Array.length_toList]; rfl
    simp only [List.length_cons, List.length_append, List.length_nil]
    omega
theorem allK_len : ∀ {l : List V}, (∀ v ∈ l, checkV v = 0) → (allK l).length ≤ 2003 * l.length
  | [], _ => by simp [allK]
  | v :: l, h => by
    have h1 := oneK_len (h v List.mem_cons_self)
    have h2 := allK_len (l := l) fun u hu => h u (List.mem_cons_of_mem _ hu)
    unfold allK at *
    rw [List.flatMap_cons, List.length_append, List.length_cons]
    omega

/-! ReplaceAll of 0 by 0, 255. -/
theorem index_cons (c : UInt8) (s : List UInt8) : Lib.index (c :: s) [0] = if c = 0 then 0 else if Lib.index s [0] = -1 then -1 else Lib.index s [0] + 1 := by
  rw [show Lib.index (c :: s) [0] = if ([0] : List UInt8).isPrefixOf (c :: s) then 0 else if Lib.index s [0] == -1 then -1 else Lib.index s [0] + 1 from by rw [Lib.index]]
  by_cases hc : c = 0
  · subst hc; simp [List.isPrefixOf]
  · have : ([0] : List UInt8).isPrefixOf (c :: s) = false := by simp [List.isPrefixOf, Ne.symm hc]
    rw [this, if_neg hc]
    simp
theorem rK_other {c : UInt8} (hc : c ≠ 0) (k : Nat) (s : List UInt8) : Lib.replaceK [0] [0, 255] k (c :: s) = c :: Lib.replaceK [0] [0, 255] k s := by
  cases k with
  | zero => rfl
  | succ k =>
    have hi := index_cons c s
    rw [if_neg hc] at hi
    by_cases h : Lib.index s [0] = -1
    · rw [if_pos h] at hi
      rw [Lib.replaceK, Lib.replaceK, if_pos (beq_iff_eq.2 hi), if_pos (beq_iff_eq.2 h)]
    · have hge := Lib.index_ge s [0]
      obtain ⟨i, h1⟩ : ∃ i : Nat, Lib.index s [0] = i := ⟨(Lib.index s [0]).toNat, by omega⟩
      rw [if_neg h, h1] at hi
      rw [Lib.replaceK_hit [0] [0, 255] k (c :: s) (i + 1) (by rw [hi]; rfl), Lib.replaceK_hit [0] [0, 255] k s i h1]
      simp
theorem rK_zero (k : Nat) (s : List UInt8) : Lib.replaceK [0] [0, 255] (k + 1) (0 :: s) = 0 :: 255 :: Lib.replaceK [0] [0, 255] k s := by
  rw [Lib.replaceK_hit [0] [0, 255] k (0 :: s) 0 (by rw [index_cons]; rfl)]
  rfl
theorem count_other {c : UInt8} (hc : c ≠ 0) (s : List UInt8) : Lib.count (c :: s) [0] = Lib.count s [0] := by
  have hi := index_cons c s
  rw [if_neg hc] at hi
  by_cases h : Lib.index s [0] = -1
  · rw [if_pos h] at hi
    rw [Lib.count_miss hi, Lib.count_miss h]
  · have hge := Lib.index_ge s [0]
    obtain ⟨i, h1⟩ : ∃ i : Nat, Lib.index s [0] = i := ⟨(Lib.index s [0]).toNat, by omega⟩
    rw [if_neg h, h1] at hi
    rw [Lib.count_hit (i := i + 1) (by simp) (by rw [hi]; rfl), Lib.count_hit (i := i) (by simp) h1]
    rfl
theorem count_zero (s : List UInt8) : Lib.count (0 :: s) [0] = 1 + Lib.count s [0] := by
  rw [Lib.count_hit (i := 0) (by simp) (by rw [index_cons]; rfl)]
  rfl
theorem replace_esc : ∀ s : List UInt8, Lib.replaceK [0] [0, 255] (Lib.count s [0]) s = esc s
  | [] => by rw [Lib.count_miss (by rfl)]; rfl
  | c :: s => by
    unfold esc
    by_cases hc : c = 0
    · subst hc
      rw [count_zero, Nat.add_comm, rK_zero, replace_esc s, if_pos rfl]
    · rw [count_other hc, rK_other hc, replace_esc s, if_neg hc]
theorem count_le : ∀ s : List UInt8, Lib.count s [0] ≤ s.length
  | [] => by rw [Lib.count_miss (by rfl)]; exact Nat.zero_le _
  | c :: s => by
    have := count_le s
    by_cases hc : c = 0
    · subst hc; rw [count_zero, List.length_cons]; omega
    · rw [count_other hc, List.length_cons]; omega
theorem replaceAll_esc (s : List UInt8) : Lib.replaceAll s [0] [0, 255] = esc s := by
  unfold Lib.replaceAll Lib.replace Lib.replaceNum
  rw [if_neg (by decide), if_pos (.inl (by decide))]
  exact replace_esc s
end Go.Proofs.YtcimipebpfajgaaDoor.Dt
