/-
  The reference's check of a value and its order of numbers.
-/
import Derived.Test.YthiajonjleambaaDoorValueB
namespace Go.Proofs.YthiajonjleambaaDoor.Dt
open Go.RowKit Go.Proofs.YthiajonjleambaaDoor.By
set_option maxHeartbeats 2000000 in
theorem refCheck (v : V) (w : World) : Calls Tryd.prog 10 #[v.val] w fun e w' => e = .returned (.int .i64 (checkV v : Int)) ∧ Below w.heap.size w w' := by
  obtain ⟨k, n, s⟩ := v
  by_cases h3 : 3 < k
  · have hr : checkV ⟨k, n, s⟩ = 2 := by unfold checkV; exact if_pos (.inl h3)
    rw [hr]; clear hr
    go_enter Tryd.func10, Tryd.ntmps10
    go_wp2_with fail
    go_ret
    exact ⟨rfl, by go_grown⟩
  · have hk : k = 0 ∨ k = 1 ∨ k = 2 ∨ k = 3 := by omega
    clear h3
    rcases hk with rfl | rfl | rfl | rfl
    all_goals
      by_cases hn : n = 0
      · subst hn
        by_cases he : s = ByteArray.empty
        · subst he
          go_enter Tryd.func10, Tryd.ntmps10
          go_wp2_with fail
          go_ret
          exact ⟨by simp [checkV, badV], by go_grown⟩
        · have l1 := ne_empty he
          have l2 : s.toList.isEmpty = false := by simpa using l1
          have l3 : (!s.toList.isEmpty) = true := by rw [l2]; rfl
          by_cases hl : 1000 < s.size
          all_goals
            go_enter Tryd.func10, Tryd.ntmps10
            go_wp2_with fail
            go_ret
            exact ⟨by simp [checkV, badV, he, hl], by go_grown⟩
      · have hne : (n == 0) = false := by simpa using hn
        have hne' : (n != 0) = true := by simpa using hn
        by_cases he : s = ByteArray.empty
        · subst he
          go_enter Tryd.func10, Tryd.ntmps10
          go_wp2_with fail
          go_ret
          exact ⟨by simp [checkV, badV, hn], by go_grown⟩
        · have l1 := ne_empty he
          have l2 : s.toList.isEmpty = false := by simpa using l1
          have l3 : (!s.toList.isEmpty) = true := by rw [l2]; rfl
          by_cases hl : 1000 < s.size
          all_goals
            go_enter Tryd.func10, Tryd.ntmps10
            go_wp2_with fail
            go_ret
            exact ⟨by first | (simp [checkV, badV, hn]; done) | (simp [checkV, badV, he]; done), by go_grown⟩

theorem numbers (a b : Int) (w : World) : Calls Tryd.prog 27 #[.int .i64 a, .int .i64 b] w fun e w' => e = .returned (.int .i64 (cmpI a b)) ∧ w = w' := by
  unfold cmpI
  by_cases h : a < b
  · rw [if_pos h]
    go_enter Tryd.func27, Tryd.ntmps27
    go_wp2_with fail
    go_ret
    exact ⟨rfl, rfl⟩
  · rw [if_neg h]
    by_cases h2 : b < a
    all_goals
      first | rw [if_pos h2] | rw [if_neg h2]
      go_enter Tryd.func27, Tryd.ntmps27
      go_wp2_with fail
      go_ret
      exact ⟨rfl, rfl⟩
end Go.Proofs.YthiajonjleambaaDoor.Dt
