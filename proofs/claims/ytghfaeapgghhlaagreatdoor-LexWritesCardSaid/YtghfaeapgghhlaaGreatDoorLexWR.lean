/-
  The walks of the reference of lex: the kinds of bytes.
-/
import Derived.Test.YtghfaeapgghhlaaGreatDoorLexPlain
import Derived.Test.YtghfaeapgghhlaaGreatDoorValW
import Derived.Deep.DeepCutAuto
namespace Go.Proofs.YtghfaeapgghhlaaGreatDoor.Dt
open Go.RowKit Go.Proofs.YtghfaeapgghhlaaGreatDoor.By

theorem refSmallW (c : UInt8) (w : World) : Calls Tryz.prog 34 #[byte c] w fun e w' => e = .returned (.bool (smallB c)) ∧ w = w' := by
  have hc := c.toNat_lt
  by_cases h1 : 97 ≤ c.toNat
  · have a1 : (97 : Int) ≤ (c.toNat : Int) := by omega
    by_cases h2 : c.toNat ≤ 122
    · have a2 : (c.toNat : Int) ≤ 122 := by omega
      rw [show smallB c = true from decide_eq_true ⟨h1, h2⟩]
      clear h1 h2
      go_enter Tryz.func34, Tryz.ntmps34
      go_wp2_with fail
      go_ret
      exact ⟨rfl, rfl⟩
    · have a2 : ¬ (c.toNat : Int) ≤ 122 := by omega
      rw [show smallB c = false from decide_eq_false (fun h => h2 h.2)]
      clear h1 h2
      go_enter Tryz.func34, Tryz.ntmps34
      go_wp2_with fail
      go_ret
      exact ⟨rfl, rfl⟩
  · have a1 : ¬ (97 : Int) ≤ (c.toNat : Int) := by omega
    rw [show smallB c = false from decide_eq_false (fun h => h1 h.1)]
    clear h1
    go_enter Tryz.func34, Tryz.ntmps34
    go_wp2_with fail
    go_ret
    exact ⟨rfl, rfl⟩
theorem refCapW (c : UInt8) (w : World) : Calls Tryz.prog 35 #[byte c] w fun e w' => e = .returned (.bool (capB c)) ∧ w = w' := by
  have hc := c.toNat_lt
  by_cases h1 : 65 ≤ c.toNat
  · have a1 : (65 : Int) ≤ (c.toNat : Int) := by omega
    by_cases h2 : c.toNat ≤ 90
    · have a2 : (c.toNat : Int) ≤ 90 := by omega
      rw [show capB c = true from decide_eq_true ⟨h1, h2⟩]
      clear h1 h2
      go_enter Tryz.func35, Tryz.ntmps35
      go_wp2_with fail
      go_ret
      exact ⟨rfl, rfl⟩
    · have a2 : ¬ (c.toNat : Int) ≤ 90 := by omega
      rw [show capB c = false from decide_eq_false (fun h => h2 h.2)]
      clear h1 h2
      go_enter Tryz.func35, Tryz.ntmps35
      go_wp2_with fail
      go_ret
      exact ⟨rfl, rfl⟩
  · have a1 : ¬ (65 : Int) ≤ (c.toNat : Int) := by omega
    rw [show capB c = false from decide_eq_false (fun h => h1 h.1)]
    clear h1
    go_enter Tryz.func35, Tryz.ntmps35
    go_wp2_with fail
    go_ret
    exact ⟨rfl, rfl⟩
theorem refDigW (c : UInt8) (w : World) : Calls Tryz.prog 37 #[byte c] w fun e w' => e = .returned (.bool (digB c)) ∧ w = w' := by
  have hc := c.toNat_lt
  by_cases h1 : 48 ≤ c.toNat
  · have a1 : (48 : Int) ≤ (c.toNat : Int) := by omega
    by_cases h2 : c.toNat ≤ 57
    · have a2 : (c.toNat : Int) ≤ 57 := by omega
      rw [show digB c = true from decide_eq_true ⟨h1, h2⟩]
      clear h1 h2
      go_enter Tryz.func37, Tryz.ntmps37
      go_wp2_with fail
      go_ret
      exact ⟨rfl, rfl⟩
    · have a2 : ¬ (c.toNat : Int) ≤ 57 := by omega
      rw [show digB c = false from decide_eq_false (fun h => h2 h.2)]
      clear h1 h2
      go_enter Tryz.func37, Tryz.ntmps37
      go_wp2_with fail
      go_ret
      exact ⟨rfl, rfl⟩
  · have a1 : ¬ (48 : Int) ≤ (c.toNat : Int) := by omega
    rw [show digB c = false from decide_eq_false (fun h => h1 h.1)]
    clear h1
    go_enter Tryz.func37, Tryz.ntmps37
    go_wp2_with fail
    go_ret
    exact ⟨rfl, rfl⟩
theorem refWordW (c : UInt8) (w : World) : Calls Tryz.prog 57 #[byte c] w fun e w' => e = .returned (.bool (wordB c)) ∧ w = w' := by
  have HS := Lib.hid (fun W => refSmallW c W)
  have HC := Lib.hid (fun W => refCapW c W)
  have HD := Lib.hid (fun W => refDigW c W)
  have hr : wordB c = (smallB c || capB c || digB c || decide (c.toNat = 95)) := rfl
  rw [hr]
  clear hr
  generalize smallB c = s at *
  generalize capB c = p at *
  generalize digB c = d at *
  cases s with
  | true =>
    simp only [Bool.true_or]
    go_enter Tryz.func57, Tryz.ntmps57
    go_wp2_with fail
    refine (HS.out _).mono ?_
    rintro e w1 ⟨rfl, rfl⟩
    go_wp2_with fail
    go_ret
    exact ⟨rfl, rfl⟩
  | false =>
    cases p with
    | true =>
      simp only [Bool.true_or, Bool.or_true]
      go_enter Tryz.func57, Tryz.ntmps57
      go_wp2_with fail
      refine (HS.out _).mono ?_
      rintro e w1 ⟨rfl, rfl⟩
      go_wp2_with fail
      refine (HC.out _).mono ?_
      rintro e w1 ⟨rfl, rfl⟩
      go_wp2_with fail
      go_ret
      exact ⟨rfl, rfl⟩
    | false =>
      cases d with
      | true =>
        simp only [Bool.true_or, Bool.or_true]
        go_enter Tryz.func57, Tryz.ntmps57
        go_wp2_with fail
        refine (HS.out _).mono ?_
        rintro e w1 ⟨rfl, rfl⟩
        go_wp2_with fail
        refine (HC.out _).mono ?_
        rintro e w1 ⟨rfl, rfl⟩
        go_wp2_with fail
        refine (HD.out _).mono ?_
        rintro e w1 ⟨rfl, rfl⟩
        go_wp2_with fail
        go_ret
        exact ⟨rfl, rfl⟩
      | false =>
        by_cases h : c.toNat = 95
        · have e1 : ((c.toNat : Int) == 95) = true := by simp; omega
          simp only [Bool.false_or, decide_eq_true h]
          clear h
          go_enter Tryz.func57, Tryz.ntmps57
          go_wp2_with fail
          refine (HS.out _).mono ?_
          rintro e w1 ⟨rfl, rfl⟩
          go_wp2_with fail
          refine (HC.out _).mono ?_
          rintro e w1 ⟨rfl, rfl⟩
          go_wp2_with fail
          refine (HD.out _).mono ?_
          rintro e w1 ⟨rfl, rfl⟩
          go_wp2_with fail
          go_ret
          exact ⟨rfl, rfl⟩
        · have e1 : ((c.toNat : Int) == 95) = false := by simp; omega
          simp only [Bool.false_or, decide_eq_false h]
          clear h
          go_enter Tryz.func57, Tryz.ntmps57
          go_wp2_with fail
          refine (HS.out _).mono ?_
          rintro e w1 ⟨rfl, rfl⟩
          go_wp2_with fail
          refine (HC.out _).mono ?_
          rintro e w1 ⟨rfl, rfl⟩
          go_wp2_with fail
          refine (HD.out _).mono ?_
          rintro e w1 ⟨rfl, rfl⟩
          go_wp2_with fail
          go_ret
          exact ⟨rfl, rfl⟩
end Go.Proofs.YtghfaeapgghhlaaGreatDoor.Dt
