/-
  The walk of package value's Compare.
-/
import Derived.Test.YtghfaeapgghhlaaDoorValueB
namespace Go.Proofs.YtghfaeapgghhlaaDoor.Dt
open Go.RowKit Go.Proofs.YtghfaeapgghhlaaDoor.By

theorem compare (a b : V) (w : World) : Calls Tryd.prog 20 #[a.val, b.val] w fun e w' => e = .returned (.int .i64 (cmpV a b)) ∧ Below w.heap.size w w' := by
  obtain ⟨k, n, s⟩ := a
  obtain ⟨j, m, t⟩ := b
  rcases Nat.lt_trichotomy k j with h | h | h
  · have hr : cmpV ⟨k, n, s⟩ ⟨j, m, t⟩ = -1 := by simp only [cmpV, cmpI]; rw [if_pos (by omega), if_pos (by omega)]
    rw [hr]; clear hr
    go_enter Tryd.func20, Tryd.ntmps20
    go_wp2_with fail
    go_ret
    exact ⟨rfl, by go_grown⟩
  · subst h
    have hr : cmpV ⟨k, n, s⟩ ⟨k, m, t⟩ = if k = 1 then cmpI n m else if k = 2 ∨ k = 3 then cmpL s.data.toList t.data.toList else 0 := by simp only [cmpV]; rw [if_neg (by simp)]
    rw [hr]; clear hr
    by_cases h1 : k = 1
    · subst h1
      rw [if_pos rfl]
      unfold cmpI
      rcases Int.lt_trichotomy n m with h | h | h
      · rw [if_pos h]
        have hne : (n != m) = true := by simp; omega
        go_enter Tryd.func20, Tryd.ntmps20
        go_wp2_with fail
        go_ret
        exact ⟨rfl, by go_grown⟩
      · subst h
        rw [if_neg (by omega), if_neg (by omega)]
        go_enter Tryd.func20, Tryd.ntmps20
        go_wp2_with fail
        go_ret
        exact ⟨rfl, by go_grown⟩
      · rw [if_neg (by omega), if_pos h]
        have hne : (n != m) = true := by simp; omega
        have hlt : decide (n < m) = false := decide_eq_false (by omega)
        go_enter Tryd.func20, Tryd.ntmps20
        go_wp2_with fail
        go_ret
        exact ⟨rfl, by go_grown⟩
    · rw [if_neg h1]
      have e1 : ((k : Int) == 1) = false := by simp; omega
      by_cases h2 : k = 2
      · subst h2
        rw [if_pos (by simp), ← compareBytes_eq]
        go_enter Tryd.func20, Tryd.ntmps20
        go_wp2_with fail
        refine (Tryd.strings_Compare _ _ _).mono ?_
        rintro e w1 ⟨rfl, rfl⟩
        go_wp2_with fail
        go_ret
        exact ⟨rfl, by go_grown⟩
      · have e2 : ((k : Int) == 2) = false := by simp; omega
        by_cases h3 : k = 3
        · subst h3
          rw [if_pos (by simp), ← compareBytes_eq]
          go_enter Tryd.func20, Tryd.ntmps20
          go_wp2_with fail
          refine (Tryd.strings_Compare _ _ _).mono ?_
          rintro e w1 ⟨rfl, rfl⟩
          go_wp2_with fail
          go_ret
          exact ⟨rfl, by go_grown⟩
        · rw [if_neg (by omega)]
          have e3 : ((k : Int) == 3) = false := by simp; omega
          go_enter Tryd.func20, Tryd.ntmps20
          go_wp2_with fail
          go_ret
          exact ⟨rfl, by go_grown⟩
  · have hr : cmpV ⟨k, n, s⟩ ⟨j, m, t⟩ = 1 := by simp only [cmpV, cmpI]; rw [if_pos (by omega), if_neg (by omega), if_pos (by omega)]
    rw [hr]; clear hr
    have hlt : decide ((k : Int) < j) = false := decide_eq_false (by omega)
    go_enter Tryd.func20, Tryd.ntmps20
    go_wp2_with fail
    go_ret
    exact ⟨rfl, by go_grown⟩

end Go.Proofs.YtghfaeapgghhlaaDoor.Dt
