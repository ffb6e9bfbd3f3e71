/-
  The walk of package eval's reckon.
-/
import Derived.Test.YtclkpbokngamiaaEvalMul
namespace Go.Proofs.Ytclkpbokngamiaa.Dt
open Go.RowKit Go.Proofs.Ytclkpbokngamiaa.By

theorem reckon_sum (a b : Int) (w : World) (ha : inR a) (hb : inR b) : Calls Try.prog 40 #[.int .u8 6, .int .i64 a, .int .i64 b] w fun e w' => e = .returned (resV (overS (a + b))) ∧ Below w.heap.size w w' := by
  have hc := fun w => sum a b w ha hb
  obtain ⟨R, hR⟩ : ∃ R, R = overS (a + b) := ⟨_, rfl⟩
  rw [← hR] at hc ⊢
  have HC := Lib.hid hc; clear hc hR ha hb
  go_enter Try.func40, Try.ntmps40
  go_wp2_with fail
  refine (HC.out _).mono ?_
  rintro e w1 ⟨rfl, hb⟩
  obtain ⟨c0, c1, c2, f0, f1, f2, hbel, hz⟩ := res3 w w1 _ _ _ _ hb
  clear hb
  go_wp2_with fail
  obtain ⟨q0, q1, q2⟩ := filled3 w1 w.heap.size _ _ _ (.int .u8 (R.1.k : Int)) (.int .i64 R.1.n) (.string R.1.s) c0 c1 c2
  refine bodyPost_ret (v := resV R) (by simp [results, Try.results40, go_sem, q0, q1, q2]) rfl ⟨rfl, ?_⟩
  go_grown
theorem reckon_mul (a b : Int) (w : World) (ha : inR a) (hb : inR b) : Calls Try.prog 40 #[.int .u8 8, .int .i64 a, .int .i64 b] w fun e w' => e = .returned (resV (overS (a * b))) ∧ Below w.heap.size w w' := by
  have hc := fun w => product a b w ha hb
  obtain ⟨R, hR⟩ : ∃ R, R = overS (a * b) := ⟨_, rfl⟩
  rw [← hR] at hc ⊢
  have HC := Lib.hid hc; clear hc hR ha hb
  go_enter Try.func40, Try.ntmps40
  go_wp2_with fail
  refine (HC.out _).mono ?_
  rintro e w1 ⟨rfl, hb⟩
  obtain ⟨c0, c1, c2, f0, f1, f2, hbel, hz⟩ := res3 w w1 _ _ _ _ hb
  clear hb
  go_wp2_with fail
  obtain ⟨q0, q1, q2⟩ := filled3 w1 w.heap.size _ _ _ (.int .u8 (R.1.k : Int)) (.int .i64 R.1.n) (.string R.1.s) c0 c1 c2
  refine bodyPost_ret (v := resV R) (by simp [results, Try.results40, go_sem, q0, q1, q2]) rfl ⟨rfl, ?_⟩
  go_grown
theorem reckon_sub (a b : Int) (w : World) (ha : inR a) (hb : inR b) : Calls Try.prog 40 #[.int .u8 7, .int .i64 a, .int .i64 b] w fun e w' => e = .returned (resV (overS (a - b))) ∧ Below w.heap.size w w' := by
  by_cases hl : b = -9223372036854775808
  · subst hl
    have ha' := ha
    unfold inR at ha'
    by_cases h0 : 0 ≤ a
    · have ho : overS (a - -9223372036854775808) = (nullV, 152) := by unfold overS; exact if_neg (by unfold inR; omega)
      rw [ho]
      clear ho ha ha' hb
      go_enter Try.func40, Try.ntmps40
      go_wp2_with fail
      refine bodyPost_ret (v := .tuple #[.agg #[.int .u8 0, .int .i64 0, .string ⟨#[]⟩], .int .i64 152]) (by simp [results, Try.results40, go_sem]) rfl ⟨rfl, ?_⟩
      go_grown
    · have ho : overS (a - -9223372036854775808) = (numV (a + 9223372036854775808), 0) := by
        rw [show a - -9223372036854775808 = a + 9223372036854775808 by omega]
        unfold overS; exact if_pos (by unfold inR; omega)
      rw [ho]
      clear ho
      obtain ⟨ha1, ha2⟩ := ha'
      clear hb ha
      go_enter Try.func40, Try.ntmps40
      go_wp2_with fail
      refine (number _ _).mono ?_
      rintro e w1 ⟨rfl, hb⟩
      obtain ⟨c0, c1, c2, f0, f1, f2, hbel, hz⟩ := res3 w w1 _ _ _ _ hb
      clear hb
      go_wp2_with fail
      obtain ⟨q0, q1, q2⟩ := filled3 w1 w.heap.size _ _ _ (.int .u8 1) (.int .i64 (a + 9223372036854775808)) (.string ⟨#[]⟩) c0 c1 c2
      refine bodyPost_ret (v := .tuple #[.agg #[.int .u8 1, .int .i64 (a + 9223372036854775808), .string ⟨#[]⟩], .int .i64 0]) (by simp [results, Try.results40, go_sem, q0, q1, q2]) rfl ⟨rfl, ?_⟩
      go_grown
  · have hne : (b == -9223372036854775808) = false := by simpa using hl
    have hb' := hb
    unfold inR at hb'
    have hnb : wrap64 (-b) = -b := by unfold wrap64; omega
    have hc := fun w => sum a (-b) w ha (by unfold inR; omega)
    obtain ⟨R, hR⟩ : ∃ R, R = overS (a - b) := ⟨_, rfl⟩
    rw [show a + -b = a - b by omega, ← hR] at hc
    rw [← hR]
    have HC := Lib.hid hc
    have HB := Lib.hid hb'
    clear hc hR ha hb hb' hl
    go_enter Try.func40, Try.ntmps40
    go_wp2_with fail
    refine (HC.out _).mono ?_
    rintro e w1 ⟨rfl, hb⟩
    obtain ⟨c0, c1, c2, f0, f1, f2, hbel, hz⟩ := res3 w w1 _ _ _ _ hb
    clear hb
    go_wp2_with fail
    obtain ⟨q0, q1, q2⟩ := filled3 w1 w.heap.size _ _ _ (.int .u8 (R.1.k : Int)) (.int .i64 R.1.n) (.string R.1.s) c0 c1 c2
    refine bodyPost_ret (v := resV R) (by simp [results, Try.results40, go_sem, q0, q1, q2]) rfl ⟨rfl, ?_⟩
    go_grown
theorem reckon_zero (op : Nat) (a : Int) (w : World) (ho : op = 9 ∨ op = 10) : Calls Try.prog 40 #[.int .u8 (op : Int), .int .i64 a, .int .i64 0] w fun e w' => e = .returned (resV (nullV, 0)) ∧ Below w.heap.size w w' := by
  rcases ho with rfl | rfl
  all_goals
    go_enter Try.func40, Try.ntmps40
    go_wp2_with fail
    refine bodyPost_ret (v := .tuple #[.agg #[.int .u8 0, .int .i64 0, .string ⟨#[]⟩], .int .i64 0]) (by simp [results, Try.results40, go_sem]) rfl ⟨rfl, ?_⟩
    go_grown
theorem reckon_div (a b : Int) (w : World) (ha : inR a) (hb : inR b) (h0 : b ≠ 0) : Calls Try.prog 40 #[.int .u8 9, .int .i64 a, .int .i64 b] w fun e w' => e = .returned (resV (overS (a.tdiv b))) ∧ Below w.heap.size w w' := by
  by_cases hm : b = -1
  · subst hm
    have hc := fun w => product a (-1) w ha hb
    rw [show a * -1 = a.tdiv (-1) by rw [tdiv_neg_one]; omega] at hc
    obtain ⟨R, hR⟩ : ∃ R, R = overS (a.tdiv (-1)) := ⟨_, rfl⟩
    rw [← hR] at hc ⊢
    have HC := Lib.hid hc; clear hc hR ha hb
    go_enter Try.func40, Try.ntmps40
    go_wp2_with fail
    refine (HC.out _).mono ?_
    rintro e w1 ⟨rfl, hb⟩
    obtain ⟨c0, c1, c2, f0, f1, f2, hbel, hz⟩ := res3 w w1 _ _ _ _ hb
    clear hb
    go_wp2_with fail
    obtain ⟨q0, q1, q2⟩ := filled3 w1 w.heap.size _ _ _ (.int .u8 (R.1.k : Int)) (.int .i64 R.1.n) (.string R.1.s) c0 c1 c2
    refine bodyPost_ret (v := resV R) (by simp [results, Try.results40, go_sem, q0, q1, q2]) rfl ⟨rfl, ?_⟩
    go_grown
  · have hd := tdiv_in a b ha h0 hm
    have ho : overS (a.tdiv b) = (numV (a.tdiv b), 0) := by unfold overS; rw [if_pos hd]
    rw [ho]
    have e0 : (b == 0) = false := by simpa using h0
    have e1 : (b == -1) = false := by simpa using hm
    unfold inR at hd
    obtain ⟨hd1, hd2⟩ := hd
    have hw : wrap64 (a.tdiv b) = a.tdiv b := by unfold wrap64; omega
    clear ho ha hb
    generalize hD : a.tdiv b = D at *
    have HD := Lib.hid hD
    go_enter Try.func40, Try.ntmps40
    go_wp2_with fail
    refine (number _ _).mono ?_
    rintro e w1 ⟨rfl, hb⟩
    obtain ⟨c0, c1, c2, f0, f1, f2, hbel, hz⟩ := res3 w w1 _ _ _ _ hb
    clear hb
    go_wp2_with fail
    obtain ⟨q0, q1, q2⟩ := filled3 w1 w.heap.size _ _ _ (.int .u8 1) (.int .i64 D) (.string ⟨#[]⟩) c0 c1 c2
    refine bodyPost_ret (v := .tuple #[.agg #[.int .u8 1, .int .i64 D, .string ⟨#[]⟩], .int .i64 0]) (by simp [results, Try.results40, go_sem, q0, q1, q2]) rfl ⟨rfl, ?_⟩
    go_grown
theorem reckon_mod (a b : Int) (w : World) (_ha : inR a) (hb : inR b) (h0 : b ≠ 0) : Calls Try.prog 40 #[.int .u8 10, .int .i64 a, .int .i64 b] w fun e w' => e = .returned (resV (numV (a.tmod b), 0)) ∧ Below w.heap.size w w' := by
  have e0 : (b == 0) = false := by simpa using h0
  by_cases hm : b = -1
  · subst hm
    rw [tmod_neg_one]
    clear hb
    go_enter Try.func40, Try.ntmps40
    go_wp2_with fail
    refine (number _ _).mono ?_
    rintro e w1 ⟨rfl, hb⟩
    obtain ⟨c0, c1, c2, f0, f1, f2, hbel, hz⟩ := res3 w w1 _ _ _ _ hb
    clear hb
    go_wp2_with fail
    obtain ⟨q0, q1, q2⟩ := filled3 w1 w.heap.size _ _ _ (.int .u8 1) (.int .i64 0) (.string ⟨#[]⟩) c0 c1 c2
    refine bodyPost_ret (v := .tuple #[.agg #[.int .u8 1, .int .i64 0, .string ⟨#[]⟩], .int .i64 0]) (by simp [results, Try.results40, go_sem, q0, q1, q2]) rfl ⟨rfl, ?_⟩
    go_grown
  · have e1 : (b == -1) = false := by simpa using hm
    clear hb
    go_enter Try.func40, Try.ntmps40
    go_wp2_with fail
    refine (number _ _).mono ?_
    rintro e w1 ⟨rfl, hb⟩
    obtain ⟨c0, c1, c2, f0, f1, f2, hbel, hz⟩ := res3 w w1 _ _ _ _ hb
    clear hb
    go_wp2_with fail
    obtain ⟨q0, q1, q2⟩ := filled3 w1 w.heap.size _ _ _ (.int .u8 1) (.int .i64 (a.tmod b)) (.string ⟨#[]⟩) c0 c1 c2
    refine bodyPost_ret (v := .tuple #[.agg #[.int .u8 1, .int .i64 (a.tmod b), .string ⟨#[]⟩], .int .i64 0]) (by simp [results, Try.results40, go_sem, q0, q1, q2]) rfl ⟨rfl, ?_⟩
    go_grown
end Go.Proofs.Ytclkpbokngamiaa.Dt
