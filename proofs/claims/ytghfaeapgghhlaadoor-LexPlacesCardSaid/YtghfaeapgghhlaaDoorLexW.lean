/-
  The walks of package lex: the kinds of bytes.
-/
import Derived.Test.YtghfaeapgghhlaaDoorLexPlain
import Derived.Test.YtghfaeapgghhlaaDoorValW
import Derived.Deep.DeepCutAuto
namespace Go.Proofs.YtghfaeapgghhlaaDoor.Dt
open Go.RowKit Go.Proofs.YtghfaeapgghhlaaDoor.By

theorem smallW (c : UInt8) (w : World) : Calls Tryd.prog 76 #[byte c] w fun e w' => e = .returned (.bool (smallB c)) ∧ w = w' := by
  have hc := c.toNat_lt
  by_cases h1 : 97 ≤ c.toNat
  · have a1 : (97 : Int) ≤ (c.toNat : Int) := by omega
    by_cases h2 : c.toNat ≤ 122
    · have a2 : (c.toNat : Int) ≤ 122 := by omega
      rw [show smallB c = true from decide_eq_true ⟨h1, h2⟩]
      clear h1 h2
      go_enter Tryd.func76, Tryd.ntmps76
      go_wp2_with fail
      go_ret
      exact ⟨rfl, rfl⟩
    · have a2 : ¬ (c.toNat : Int) ≤ 122 := by omega
      rw [show smallB c = false from decide_eq_false (fun h => h2 h.2)]
      clear h1 h2
      go_enter Tryd.func76, Tryd.ntmps76
      go_wp2_with fail
      go_ret
      exact ⟨rfl, rfl⟩
  · have a1 : ¬ (97 : Int) ≤ (c.toNat : Int) := by omega
    rw [show smallB c = false from decide_eq_false (fun h => h1 h.1)]
    clear h1
    go_enter Tryd.func76, Tryd.ntmps76
    go_wp2_with fail
    go_ret
    exact ⟨rfl, rfl⟩
theorem capW (c : UInt8) (w : World) : Calls Tryd.prog 77 #[byte c] w fun e w' => e = .returned (.bool (capB c)) ∧ w = w' := by
  have hc := c.toNat_lt
  by_cases h1 : 65 ≤ c.toNat
  · have a1 : (65 : Int) ≤ (c.toNat : Int) := by omega
    by_cases h2 : c.toNat ≤ 90
    · have a2 : (c.toNat : Int) ≤ 90 := by omega
      rw [show capB c = true from decide_eq_true ⟨h1, h2⟩]
      clear h1 h2
      go_enter Tryd.func77, Tryd.ntmps77
      go_wp2_with fail
      go_ret
      exact ⟨rfl, rfl⟩
    · have a2 : ¬ (c.toNat : Int) ≤ 90 := by omega
      rw [show capB c = false from decide_eq_false (fun h => h2 h.2)]
      clear h1 h2
      go_enter Tryd.func77, Tryd.ntmps77
      go_wp2_with fail
      go_ret
      exact ⟨rfl, rfl⟩
  · have a1 : ¬ (65 : Int) ≤ (c.toNat : Int) := by omega
    rw [show capB c = false from decide_eq_false (fun h => h1 h.1)]
    clear h1
    go_enter Tryd.func77, Tryd.ntmps77
    go_wp2_with fail
    go_ret
    exact ⟨rfl, rfl⟩
theorem digW (c : UInt8) (w : World) : Calls Tryd.prog 79 #[byte c] w fun e w' => e = .returned (.bool (digB c)) ∧ w = w' := by
  have hc := c.toNat_lt
  by_cases h1 : 48 ≤ c.toNat
  · have a1 : (48 : Int) ≤ (c.toNat : Int) := by omega
    by_cases h2 : c.toNat ≤ 57
    · have a2 : (c.toNat : Int) ≤ 57 := by omega
      rw [show digB c = true from decide_eq_true ⟨h1, h2⟩]
      clear h1 h2
      go_enter Tryd.func79, Tryd.ntmps79
      go_wp2_with fail
      go_ret
      exact ⟨rfl, rfl⟩
    · have a2 : ¬ (c.toNat : Int) ≤ 57 := by omega
      rw [show digB c = false from decide_eq_false (fun h => h2 h.2)]
      clear h1 h2
      go_enter Tryd.func79, Tryd.ntmps79
      go_wp2_with fail
      go_ret
      exact ⟨rfl, rfl⟩
  · have a1 : ¬ (48 : Int) ≤ (c.toNat : Int) := by omega
    rw [show digB c = false from decide_eq_false (fun h => h1 h.1)]
    clear h1
    go_enter Tryd.func79, Tryd.ntmps79
    go_wp2_with fail
    go_ret
    exact ⟨rfl, rfl⟩
theorem inWordW (c : UInt8) (w : World) : Calls Tryd.prog 50 #[byte c] w fun e w' => e = .returned (.bool (wordB c)) ∧ w = w' := by
  have HS := Lib.hid (fun W => smallW c W)
  have HC := Lib.hid (fun W => capW c W)
  have HD := Lib.hid (fun W => digW c W)
  have hr : wordB c = (smallB c || capB c || digB c || decide (c.toNat = 95)) := rfl
  rw [hr]
  clear hr
  generalize smallB c = s at *
  generalize capB c = p at *
  generalize digB c = d at *
  cases s with
  | true =>
    simp only [Bool.true_or]
    go_enter Tryd.func50, Tryd.ntmps50
    go_wp2_with fail
    refine (HS.out _).mono ?_
    rintro e w1 ⟨rfl, rfl⟩
    go_wp2_with fail
    go_ret
    exact ⟨rfl, rfl⟩
  | false =>
    cases p with
    | true =>
      simp only [Bool.true_or, Bool.or_true]
      go_enter Tryd.func50, Tryd.ntmps50
      go_wp2_with fail
      refine (HS.out _).mono ?_
      rintro e w1 ⟨rfl, rfl⟩
      go_wp2_with fail
      refine (HC.out _).mono ?_
      rintro e w1 ⟨rfl, rfl⟩
      go_wp2_with fail
      go_ret
      exact ⟨rfl, rfl⟩
    | false =>
      cases d with
      | true =>
        simp only [Bool.true_or, Bool.or_true]
        go_enter Tryd.func50, Tryd.ntmps50
        go_wp2_with fail
        refine (HS.out _).mono ?_
        rintro e w1 ⟨rfl, rfl⟩
        go_wp2_with fail
        refine (HC.out _).mono ?_
        rintro e w1 ⟨rfl, rfl⟩
        go_wp2_with fail
        refine (HD.out _).mono ?_
        rintro e w1 ⟨rfl, rfl⟩
        go_wp2_with fail
        go_ret
        exact ⟨rfl, rfl⟩
      | false =>
        by_cases h : c.toNat = 95
        · have e1 : ((c.toNat : Int) == 95) = true := by simp; omega
          simp only [Bool.false_or, decide_eq_true h]
          clear h
          go_enter Tryd.func50, Tryd.ntmps50
          go_wp2_with fail
          refine (HS.out _).mono ?_
          rintro e w1 ⟨rfl, rfl⟩
          go_wp2_with fail
          refine (HC.out _).mono ?_
          rintro e w1 ⟨rfl, rfl⟩
          go_wp2_with fail
          refine (HD.out _).mono ?_
          rintro e w1 ⟨rfl, rfl⟩
          go_wp2_with fail
          go_ret
          exact ⟨rfl, rfl⟩
        · have e1 : ((c.toNat : Int) == 95) = false := by simp; omega
          simp only [Bool.false_or, decide_eq_false h]
          clear h
          go_enter Tryd.func50, Tryd.ntmps50
          go_wp2_with fail
          refine (HS.out _).mono ?_
          rintro e w1 ⟨rfl, rfl⟩
          go_wp2_with fail
          refine (HC.out _).mono ?_
          rintro e w1 ⟨rfl, rfl⟩
          go_wp2_with fail
          refine (HD.out _).mono ?_
          rintro e w1 ⟨rfl, rfl⟩
          go_wp2_with fail
          go_ret
          exact ⟨rfl, rfl⟩
theorem nameW (c : UInt8) (w : World) : Calls Tryd.prog 108 #[byte c] w fun e w' => e = .returned (.bool (nameB c)) ∧ w = w' := by
  have HI := Lib.hid (fun W => inWordW c W)
  have HC := Lib.hid (fun W => capW c W)
  have hr : nameB c = (wordB c && !capB c) := rfl
  rw [hr]
  clear hr
  generalize wordB c = s at *
  generalize capB c = p at *
  cases s with
  | false =>
    simp only [Bool.false_and]
    go_enter Tryd.func108, Tryd.ntmps108
    go_wp2_with fail
    refine (HI.out _).mono ?_
    rintro e w1 ⟨rfl, rfl⟩
    go_wp2_with fail
    go_ret
    exact ⟨rfl, rfl⟩
  | true =>
    cases p <;> simp only [Bool.true_and, Bool.not_false, Bool.not_true]
    all_goals
      go_enter Tryd.func108, Tryd.ntmps108
      go_wp2_with fail
      refine (HI.out _).mono ?_
      rintro e w1 ⟨rfl, rfl⟩
      go_wp2_with fail
      refine (HC.out _).mono ?_
      rintro e w1 ⟨rfl, rfl⟩
      go_wp2_with fail
      go_ret
      exact ⟨rfl, rfl⟩
theorem lineW (c : UInt8) (w : World) : Calls Tryd.prog 73 #[byte c] w fun e w' => e = .returned (.bool (lineB c)) ∧ w = w' := by
  have hc := c.toNat_lt
  by_cases h : c.toNat = 10
  · have e1 : ((c.toNat : Int) != 10) = false := by simp; omega
    rw [show lineB c = false from decide_eq_false (fun e => e h)]
    clear h
    go_enter Tryd.func73, Tryd.ntmps73
    go_wp2_with fail
    go_ret
    exact ⟨rfl, rfl⟩
  · have e1 : ((c.toNat : Int) != 10) = true := by simp; omega
    rw [show lineB c = true from decide_eq_true h]
    clear h
    go_enter Tryd.func73, Tryd.ntmps73
    go_wp2_with fail
    go_ret
    exact ⟨rfl, rfl⟩
theorem blankW (c : UInt8) (w : World) : Calls Tryd.prog 71 #[byte c] w fun e w' => e = .returned (.bool (blankB c)) ∧ w = w' := by
  have hc := c.toNat_lt
  by_cases h32 : c.toNat = 32
  · have e32 : ((c.toNat : Int) == 32) = true := by simp; omega
    rw [show blankB c = true from decide_eq_true (by omega)]
    clear h32
    go_enter Tryd.func71, Tryd.ntmps71
    go_wp2_with fail
    go_ret
    exact ⟨rfl, rfl⟩
  · have e32 : ((c.toNat : Int) == 32) = false := by simp; omega
    by_cases h9 : c.toNat = 9
    · have e9 : ((c.toNat : Int) == 9) = true := by simp; omega
      rw [show blankB c = true from decide_eq_true (by omega)]
      clear h32 h9
      go_enter Tryd.func71, Tryd.ntmps71
      go_wp2_with fail
      go_ret
      exact ⟨rfl, rfl⟩
    · have e9 : ((c.toNat : Int) == 9) = false := by simp; omega
      by_cases h10 : c.toNat = 10
      · have e10 : ((c.toNat : Int) == 10) = true := by simp; omega
        rw [show blankB c = true from decide_eq_true (by omega)]
        clear h32 h9 h10
        go_enter Tryd.func71, Tryd.ntmps71
        go_wp2_with fail
        go_ret
        exact ⟨rfl, rfl⟩
      · have e10 : ((c.toNat : Int) == 10) = false := by simp; omega
        by_cases h13 : c.toNat = 13
        · have e13 : ((c.toNat : Int) == 13) = true := by simp; omega
          rw [show blankB c = true from decide_eq_true (by omega)]
          clear h32 h9 h10 h13
          go_enter Tryd.func71, Tryd.ntmps71
          go_wp2_with fail
          go_ret
          exact ⟨rfl, rfl⟩
        · have e13 : ((c.toNat : Int) == 13) = false := by simp; omega
          rw [show blankB c = false from decide_eq_false (by omega)]
          clear h32 h9 h10 h13
          go_enter Tryd.func71, Tryd.ntmps71
          go_wp2_with fail
          go_ret
          exact ⟨rfl, rfl⟩
end Go.Proofs.YtghfaeapgghhlaaDoor.Dt
