/-
  strings.ReplaceAll of one byte: plain laws, no program in sight.
-/
import Derived.Lib.Replace
namespace Go.Proofs.YtghfaeapgghhlaaDoor.Dt

/-- Each byte of one kind replaced. -/
def subL (z : UInt8) (new : List UInt8) : List UInt8 → List UInt8
  | [] => []
  | c :: l => if c = z then new ++ subL z new l else c :: subL z new l
theorem index_one (z c : UInt8) (s : List UInt8) : Lib.index (c :: s) [z] = if c = z then 0 else if Lib.index s [z] = -1 then -1 else Lib.index s [z] + 1 := by
  rw [Lib.index]
  by_cases hc : c = z
  · subst hc; simp [List.isPrefixOf]
  · have : ([z] : List UInt8).isPrefixOf (c :: s) = false := by simp [List.isPrefixOf, Ne.symm hc]
    rw [this, if_neg hc]
    simp
theorem sub_other {z c : UInt8} (new : List UInt8) (hc : c ≠ z) (k : Nat) (s : List UInt8) : Lib.replaceK [z] new k (c :: s) = c :: Lib.replaceK [z] new k s := by
  cases k with
  | zero => rfl
  | succ k =>
    have hi := index_one z c s
    rw [if_neg hc] at hi
    by_cases h : Lib.index s [z] = -1
    · rw [if_pos h] at hi
      rw [Lib.replaceK, Lib.replaceK, if_pos (beq_iff_eq.2 hi), if_pos (beq_iff_eq.2 h)]
    · have hge := Lib.index_ge s [z]
      obtain ⟨i, h1⟩ : ∃ i : Nat, Lib.index s [z] = i := ⟨(Lib.index s [z]).toNat, by omega⟩
      rw [if_neg h, h1] at hi
      rw [Lib.replaceK_hit [z] new k (c :: s) (i + 1) (by rw [hi]; rfl), Lib.replaceK_hit [z] new k s i h1]
      simp
theorem sub_hit (z : UInt8) (new : List UInt8) (k : Nat) (s : List UInt8) : Lib.replaceK [z] new (k + 1) (z :: s) = new ++ Lib.replaceK [z] new k s := by
  rw [Lib.replaceK_hit [z] new k (z :: s) 0 (by rw [index_one, if_pos rfl]; rfl)]
  rfl
theorem cnt_other {z c : UInt8} (hc : c ≠ z) (s : List UInt8) : Lib.count (c :: s) [z] = Lib.count s [z] := by
  have hi := index_one z c s
  rw [if_neg hc] at hi
  by_cases h : Lib.index s [z] = -1
  · rw [if_pos h] at hi
    rw [Lib.count_miss hi, Lib.count_miss h]
  · have hge := Lib.index_ge s [z]
    obtain ⟨i, h1⟩ : ∃ i : Nat, Lib.index s [z] = i := ⟨(Lib.index s [z]).toNat, by omega⟩
    rw [if_neg h, h1] at hi
    rw [Lib.count_hit (i := i + 1) (by simp) (by rw [hi]; rfl), Lib.count_hit (i := i) (by simp) h1]
    rfl
theorem cnt_hit (z : UInt8) (s : List UInt8) : Lib.count (z :: s) [z] = 1 + Lib.count s [z] := by
  rw [Lib.count_hit (i := 0) (by simp) (by rw [index_one, if_pos rfl]; rfl)]
  rfl
theorem sub_all (z : UInt8) (new : List UInt8) : ∀ s : List UInt8, Lib.replaceK [z] new (Lib.count s [z]) s = subL z new s
  | [] => by rw [Lib.count_miss (by rfl)]; rfl
  | c :: s => by
    unfold subL
    by_cases hc : c = z
    · subst hc
      rw [cnt_hit, Nat.add_comm, sub_hit, sub_all c new s, if_pos rfl]
    · rw [cnt_other hc, sub_other new hc, sub_all z new s, if_neg hc]
theorem cnt_le (z : UInt8) : ∀ s : List UInt8, Lib.count s [z] ≤ s.length
  | [] => by rw [Lib.count_miss (by rfl)]; exact Nat.zero_le _
  | c :: s => by
    have := cnt_le z s
    by_cases hc : c = z
    · subst hc; rw [cnt_hit, List.length_cons]; omega
    · rw [cnt_other hc, List.length_cons]; omega
theorem replaceAll_sub (z : UInt8) (new s : List UInt8) (h : new ≠ [z]) : Lib.replaceAll s [z] new = subL z new s := by
  unfold Lib.replaceAll Lib.replace Lib.replaceNum
  rw [if_neg (by simpa using Ne.symm h), if_pos (.inl (by decide))]
  exact sub_all z new s
end Go.Proofs.YtghfaeapgghhlaaDoor.Dt
