/-
  The walks of the reference's numbers: product, and what operations come to.
-/
import Derived.Test.YtaeobillbocemaaEvalTimes
namespace Go.Proofs.Ytaeobillbocemaa.Dt
open Go.RowKit Go.Proofs.Ytaeobillbocemaa.By

theorem least_over (a b : Int) (hb : b < 0) (h : a = -9223372036854775808 ∨ b = -9223372036854775808) (h0 : a ≠ 0) (h1 : a ≠ 1) (hR : inR a) : overS (a * b) = (nullV, 152) := by
  unfold inR at hR
  unfold overS
  refine if_neg ?_
  unfold inR
  rcases h with rfl | rfl
  · omega
  · rcases Int.lt_or_le a 0 with h | h <;> omega

theorem times (a b : Int) (w : World) (ha : inR a) (hb : inR b) : Calls Try.prog 74 #[.int .i64 a, .int .i64 b] w fun e w' => e = .returned (resV (overS (a * b))) ∧ Below w.heap.size w w' := by
  by_cases hp : 0 ≤ b
  · exact times_pos a b w ha hb hp
  · have hd : decide (b < 0) = true := decide_eq_true (by omega)
    by_cases hl : a = -9223372036854775808 ∨ b = -9223372036854775808
    · by_cases h0 : a = 0
      · subst h0
        have hbl : b = -9223372036854775808 := by rcases hl with h | h <;> omega
        subst hbl
        rw [show overS (0 * -9223372036854775808) = (numV 0, 0) by rw [Int.zero_mul]; unfold overS; exact if_pos (by unfold inR; omega)]
        clear ha hb
        go_enter Try.func74, Try.ntmps74
        go_wp2_with fail
        refine (whole _ _).mono ?_
        rintro e w1 ⟨rfl, hb⟩
        obtain ⟨c0, c1, c2, f0, f1, f2, hbel, hz⟩ := res3 w w1 _ _ _ _ hb
        clear hb
        go_wp2_with fail
        obtain ⟨q0, q1, q2⟩ := filled3 w1 w.heap.size _ _ _ (.int .u8 1) (.int .i64 0) (.string ⟨#[]⟩) c0 c1 c2
        refine bodyPost_ret (v := .tuple #[.agg #[.int .u8 1, .int .i64 0, .string ⟨#[]⟩], .int .i64 0]) (by simp [results, Try.results74, go_sem, q0, q1, q2]) rfl ⟨rfl, ?_⟩
        go_grown
      · by_cases h1 : a = 1
        · subst h1
          have hbl : b = -9223372036854775808 := by rcases hl with h | h <;> omega
          subst hbl
          rw [show overS (1 * -9223372036854775808) = (numV (-9223372036854775808), 0) by rw [Int.one_mul]; unfold overS; exact if_pos (by unfold inR; omega)]
          clear ha hb
          go_enter Try.func74, Try.ntmps74
          go_wp2_with fail
          refine (whole _ _).mono ?_
          rintro e w1 ⟨rfl, hb⟩
          obtain ⟨c0, c1, c2, f0, f1, f2, hbel, hz⟩ := res3 w w1 _ _ _ _ hb
          clear hb
          go_wp2_with fail
          obtain ⟨q0, q1, q2⟩ := filled3 w1 w.heap.size _ _ _ (.int .u8 1) (.int .i64 (-9223372036854775808)) (.string ⟨#[]⟩) c0 c1 c2
          refine bodyPost_ret (v := .tuple #[.agg #[.int .u8 1, .int .i64 (-9223372036854775808), .string ⟨#[]⟩], .int .i64 0]) (by simp [results, Try.results74, go_sem, q0, q1, q2]) rfl ⟨rfl, ?_⟩
          go_grown
        · rw [least_over a b (by omega) hl h0 h1 ha]
          have e0 : (a == 0) = false := by simpa using h0
          have e1 : (a == 1) = false := by simpa using h1
          have e2 : (b == 0) = false := by simp; omega
          rcases hl with rfl | rfl
          · clear ha hb
            go_enter Try.func74, Try.ntmps74
            go_wp2_with fail
            refine bodyPost_ret (v := .tuple #[.agg #[.int .u8 0, .int .i64 0, .string ⟨#[]⟩], .int .i64 152]) (by simp [results, Try.results74, go_sem]) rfl ⟨rfl, ?_⟩
            go_grown
          · by_cases hal : a = -9223372036854775808
            · subst hal
              clear ha hb
              go_enter Try.func74, Try.ntmps74
              go_wp2_with fail
              refine bodyPost_ret (v := .tuple #[.agg #[.int .u8 0, .int .i64 0, .string ⟨#[]⟩], .int .i64 152]) (by simp [results, Try.results74, go_sem]) rfl ⟨rfl, ?_⟩
              go_grown
            · have e3 : (a == -9223372036854775808) = false := by simpa using hal
              clear ha hb
              go_enter Try.func74, Try.ntmps74
              go_wp2_with fail
              refine bodyPost_ret (v := .tuple #[.agg #[.int .u8 0, .int .i64 0, .string ⟨#[]⟩], .int .i64 152]) (by simp [results, Try.results74, go_sem]) rfl ⟨rfl, ?_⟩
              go_grown
    · have e1 : (a == -9223372036854775808) = false := by simp; omega
      have e2 : (b == -9223372036854775808) = false := by simp; omega
      have ha' := ha
      have hb' := hb
      unfold inR at ha' hb'
      have hn1 : wrap64 (-a) = -a := by unfold wrap64; omega
      have hn2 : wrap64 (-b) = -b := by unfold wrap64; omega
      have hc := fun w => times_pos (-a) (-b) w (by unfold inR; omega) (by unfold inR; omega) (by omega)
      rw [Int.neg_mul_neg] at hc
      obtain ⟨R, hR⟩ : ∃ R, R = overS (a * b) := ⟨_, rfl⟩
      rw [← hR] at hc ⊢
      have HC := Lib.hid hc
      have HB := Lib.hid (And.intro ha' hb')
      clear hc hR ha hb ha' hb' hl
      go_enter Try.func74, Try.ntmps74
      go_wp2_with fail
      refine (HC.out _).mono ?_
      rintro e w1 ⟨rfl, hb⟩
      obtain ⟨c0, c1, c2, f0, f1, f2, hbel, hz⟩ := res3 w w1 _ _ _ _ hb
      clear hb
      go_wp2_with fail
      obtain ⟨q0, q1, q2⟩ := filled3 w1 w.heap.size _ _ _ (.int .u8 (R.1.k : Int)) (.int .i64 R.1.n) (.string R.1.s) c0 c1 c2
      refine bodyPost_ret (v := resV R) (by simp [results, Try.results74, go_sem, q0, q1, q2]) rfl ⟨rfl, ?_⟩
      go_grown

theorem small_lg {a h l : Int} (hL : Lg a h l) (ha : inR a) : -4611686018427387904 ≤ h ∧ h ≤ 4611686018427387900 := by
  obtain ⟨e, x, y⟩ := hL
  unfold inR at ha
  constructor <;> omega
theorem small_neg {a h l : Int} (hL : Lg (-a) h l) (ha : inR a) : -4611686018427387904 ≤ h ∧ h ≤ 4611686018427387900 := by
  obtain ⟨e, x, y⟩ := hL
  unfold inR at ha
  constructor <;> omega

/-- What a reference's operation does with its result's box. -/
theorem refnum_sum (a b : Int) (w : World) (ha : inR a) (hb : inR b) : Calls Try.prog 64 #[.int .u8 6, .int .i64 a, .int .i64 b] w fun e w' => e = .returned (resV (overS (a + b))) ∧ Below w.heap.size w w' := by
  obtain ⟨R, hR⟩ : ∃ R, R = overS (a + b) := ⟨_, rfl⟩
  rw [← hR]
  have HA := Lib.hid ha
  have HB := Lib.hid hb
  have HR := Lib.hid hR
  clear ha hb hR
  go_enter Try.func64, Try.ntmps64
  go_wp2_with fail
  refine (long a _ HA.out).mono ?_
  rintro e w1 ⟨⟨h1, l1, hL1, rfl⟩, hb1⟩
  have HL1 := Lib.hid hL1; clear hL1
  go_wp2_with fail
  refine (long b _ HB.out).mono ?_
  rintro e w2 ⟨⟨h2, l2, hL2, rfl⟩, hb2⟩
  have HL2 := Lib.hid hL2; clear hL2
  go_wp2_with fail
  refine (plus a b h1 l1 h2 l2 _ HL1.out HL2.out (small_lg HL1.out HA.out) (small_lg HL2.out HB.out)).mono ?_
  rintro e w3 ⟨⟨h3, l3, hL3, rfl⟩, hb3⟩
  have HL3 := Lib.hid hL3; clear hL3
  go_wp2_with fail
  refine (answer (a + b) h3 l3 _ HL3.out).mono ?_
  rw [← HR.out]
  rintro e w4 ⟨rfl, hb4⟩
  have hb := next (next (next hb1 hb2) hb3) hb4
  clear hb1 hb2 hb3 hb4
  obtain ⟨c0, c1, c2, f0, f1, f2, hbel, hz⟩ := res3 w w4 _ _ _ _ hb
  clear hb
  go_wp2_with fail
  obtain ⟨q0, q1, q2⟩ := filled3 w4 w.heap.size _ _ _ (.int .u8 (R.1.k : Int)) (.int .i64 R.1.n) (.string R.1.s) c0 c1 c2
  refine bodyPost_ret (v := resV R) (by simp [results, Try.results64, go_sem, q0, q1, q2]) rfl ⟨rfl, ?_⟩
  go_grown
theorem refnum_sub (a b : Int) (w : World) (ha : inR a) (hb : inR b) : Calls Try.prog 64 #[.int .u8 7, .int .i64 a, .int .i64 b] w fun e w' => e = .returned (resV (overS (a - b))) ∧ Below w.heap.size w w' := by
  obtain ⟨R, hR⟩ : ∃ R, R = overS (a - b) := ⟨_, rfl⟩
  rw [← hR]
  have HA := Lib.hid ha
  have HB := Lib.hid hb
  have HR := Lib.hid hR
  clear ha hb hR
  go_enter Try.func64, Try.ntmps64
  go_wp2_with fail
  refine (long a _ HA.out).mono ?_
  rintro e w1 ⟨⟨h1, l1, hL1, rfl⟩, hb1⟩
  have HL1 := Lib.hid hL1; clear hL1
  go_wp2_with fail
  refine (long b _ HB.out).mono ?_
  rintro e w2 ⟨⟨h2, l2, hL2, rfl⟩, hb2⟩
  have HL2 := Lib.hid hL2; clear hL2
  go_wp2_with fail
  refine (negL b h2 l2 _ HL2.out (small_lg HL2.out HB.out)).mono ?_
  rintro e w3 ⟨⟨h3, l3, hL3, rfl⟩, hb3⟩
  have HL3 := Lib.hid hL3; clear hL3
  go_wp2_with fail
  refine (plus a (-b) h1 l1 h3 l3 _ HL1.out HL3.out (small_lg HL1.out HA.out) (small_neg HL3.out HB.out)).mono ?_
  rintro e w4 ⟨⟨h4, l4, hL4, rfl⟩, hb4⟩
  have HL4 := Lib.hid hL4; clear hL4
  go_wp2_with fail
  refine (answer (a + -b) h4 l4 _ HL4.out).mono ?_
  rw [show a + -b = a - b by omega, ← HR.out]
  rintro e w5 ⟨rfl, hb5⟩
  have hb := next (next (next (next hb1 hb2) hb3) hb4) hb5
  clear hb1 hb2 hb3 hb4 hb5
  obtain ⟨c0, c1, c2, f0, f1, f2, hbel, hz⟩ := res3 w w5 _ _ _ _ hb
  clear hb
  go_wp2_with fail
  obtain ⟨q0, q1, q2⟩ := filled3 w5 w.heap.size _ _ _ (.int .u8 (R.1.k : Int)) (.int .i64 R.1.n) (.string R.1.s) c0 c1 c2
  refine bodyPost_ret (v := resV R) (by simp [results, Try.results64, go_sem, q0, q1, q2]) rfl ⟨rfl, ?_⟩
  go_grown
theorem refnum_mul (a b : Int) (w : World) (ha : inR a) (hb : inR b) : Calls Try.prog 64 #[.int .u8 8, .int .i64 a, .int .i64 b] w fun e w' => e = .returned (resV (overS (a * b))) ∧ Below w.heap.size w w' := by
  have hc := fun w => times a b w ha hb
  obtain ⟨R, hR⟩ : ∃ R, R = overS (a * b) := ⟨_, rfl⟩
  rw [← hR] at hc ⊢
  have HC := Lib.hid hc; clear hc hR ha hb
  go_enter Try.func64, Try.ntmps64
  go_wp2_with fail
  refine (HC.out _).mono ?_
  rintro e w1 ⟨rfl, hb⟩
  obtain ⟨c0, c1, c2, f0, f1, f2, hbel, hz⟩ := res3 w w1 _ _ _ _ hb
  clear hb
  go_wp2_with fail
  obtain ⟨q0, q1, q2⟩ := filled3 w1 w.heap.size _ _ _ (.int .u8 (R.1.k : Int)) (.int .i64 R.1.n) (.string R.1.s) c0 c1 c2
  refine bodyPost_ret (v := resV R) (by simp [results, Try.results64, go_sem, q0, q1, q2]) rfl ⟨rfl, ?_⟩
  go_grown
theorem refnum_zero (op : Nat) (a : Int) (w : World) (ho : op = 9 ∨ op = 10) : Calls Try.prog 64 #[.int .u8 (op : Int), .int .i64 a, .int .i64 0] w fun e w' => e = .returned (resV (nullV, 0)) ∧ Below w.heap.size w w' := by
  rcases ho with rfl | rfl
  all_goals
    go_enter Try.func64, Try.ntmps64
    go_wp2_with fail
    refine bodyPost_ret (v := .tuple #[.agg #[.int .u8 0, .int .i64 0, .string ⟨#[]⟩], .int .i64 0]) (by simp [results, Try.results64, go_sem]) rfl ⟨rfl, ?_⟩
    go_grown
theorem refnum_div (a b : Int) (w : World) (ha : inR a) (hb : inR b) (h0 : b ≠ 0) : Calls Try.prog 64 #[.int .u8 9, .int .i64 a, .int .i64 b] w fun e w' => e = .returned (resV (overS (a.tdiv b))) ∧ Below w.heap.size w w' := by
  by_cases hm : b = -1
  · subst hm
    rw [tdiv_neg_one]
    obtain ⟨R, hR⟩ : ∃ R, R = overS (-a) := ⟨_, rfl⟩
    rw [← hR]
    have HA := Lib.hid ha
    have HR := Lib.hid hR
    clear ha hb hR
    go_enter Try.func64, Try.ntmps64
    go_wp2_with fail
    refine (long a _ HA.out).mono ?_
    rintro e w1 ⟨⟨h1, l1, hL1, rfl⟩, hb1⟩
    have HL1 := Lib.hid hL1; clear hL1
    go_wp2_with fail
    refine (negL a h1 l1 _ HL1.out (small_lg HL1.out HA.out)).mono ?_
    rintro e w3 ⟨⟨h3, l3, hL3, rfl⟩, hb3⟩
    have HL3 := Lib.hid hL3; clear hL3
    go_wp2_with fail
    refine (answer (-a) h3 l3 _ HL3.out).mono ?_
    rw [← HR.out]
    rintro e w4 ⟨rfl, hb4⟩
    have hb := next (next hb1 hb3) hb4
    clear hb1 hb3 hb4
    obtain ⟨c0, c1, c2, f0, f1, f2, hbel, hz⟩ := res3 w w4 _ _ _ _ hb
    clear hb
    go_wp2_with fail
    obtain ⟨q0, q1, q2⟩ := filled3 w4 w.heap.size _ _ _ (.int .u8 (R.1.k : Int)) (.int .i64 R.1.n) (.string R.1.s) c0 c1 c2
    refine bodyPost_ret (v := resV R) (by simp [results, Try.results64, go_sem, q0, q1, q2]) rfl ⟨rfl, ?_⟩
    go_grown
  · have hd := tdiv_in a b ha h0 hm
    have ho : overS (a.tdiv b) = (numV (a.tdiv b), 0) := by unfold overS; rw [if_pos hd]
    rw [ho]
    have e0 : (b == 0) = false := by simpa using h0
    have e1 : (b == -1) = false := by simpa using hm
    unfold inR at hd
    obtain ⟨hd1, hd2⟩ := hd
    have hw : wrap64 (a.tdiv b) = a.tdiv b := by unfold wrap64; omega
    clear ho ha hb
    generalize hD : a.tdiv b = D at *
    have HD := Lib.hid hD
    go_enter Try.func64, Try.ntmps64
    go_wp2_with fail
    refine (whole _ _).mono ?_
    rintro e w1 ⟨rfl, hb⟩
    obtain ⟨c0, c1, c2, f0, f1, f2, hbel, hz⟩ := res3 w w1 _ _ _ _ hb
    clear hb
    go_wp2_with fail
    obtain ⟨q0, q1, q2⟩ := filled3 w1 w.heap.size _ _ _ (.int .u8 1) (.int .i64 D) (.string ⟨#[]⟩) c0 c1 c2
    refine bodyPost_ret (v := .tuple #[.agg #[.int .u8 1, .int .i64 D, .string ⟨#[]⟩], .int .i64 0]) (by simp [results, Try.results64, go_sem, q0, q1, q2]) rfl ⟨rfl, ?_⟩
    go_grown
theorem refnum_mod (a b : Int) (w : World) (ha : inR a) (hb : inR b) (h0 : b ≠ 0) : Calls Try.prog 64 #[.int .u8 10, .int .i64 a, .int .i64 b] w fun e w' => e = .returned (resV (numV (a.tmod b), 0)) ∧ Below w.heap.size w w' := by
  have e0 : (b == 0) = false := by simpa using h0
  by_cases hm : b = -1
  · subst hm
    rw [tmod_neg_one]
    clear ha hb
    go_enter Try.func64, Try.ntmps64
    go_wp2_with fail
    refine (whole _ _).mono ?_
    rintro e w1 ⟨rfl, hb⟩
    obtain ⟨c0, c1, c2, f0, f1, f2, hbel, hz⟩ := res3 w w1 _ _ _ _ hb
    clear hb
    go_wp2_with fail
    obtain ⟨q0, q1, q2⟩ := filled3 w1 w.heap.size _ _ _ (.int .u8 1) (.int .i64 0) (.string ⟨#[]⟩) c0 c1 c2
    refine bodyPost_ret (v := .tuple #[.agg #[.int .u8 1, .int .i64 0, .string ⟨#[]⟩], .int .i64 0]) (by simp [results, Try.results64, go_sem, q0, q1, q2]) rfl ⟨rfl, ?_⟩
    go_grown
  · have e1 : (b == -1) = false := by simpa using hm
    have hd := tdiv_in a b ha h0 hm
    unfold inR at hd ha hb
    obtain ⟨hd1, hd2⟩ := hd
    have hw : wrap64 (a.tdiv b) = a.tdiv b := by unfold wrap64; omega
    obtain ⟨D, hD⟩ : ∃ D, D = a.tdiv b := ⟨_, rfl⟩
    obtain ⟨M, hM⟩ : ∃ M, M = a.tmod b := ⟨_, rfl⟩
    obtain ⟨PP, hPP⟩ : ∃ PP, PP = D * b := ⟨_, rfl⟩
    have hdm : a = PP + M := by rw [hPP, hD, hM, Int.mul_comm]; exact (Int.mul_tdiv_add_tmod a b).symm
    have hmb : M.natAbs ≤ a.natAbs := by rw [hM, Int.natAbs_tmod]; exact Nat.mod_le _ _
    have hpb : PP.natAbs ≤ a.natAbs := by
      rw [hPP, hD, Int.natAbs_mul, Int.natAbs_tdiv, Nat.mul_comm]
      exact Nat.mul_div_le _ _
    rw [← hD] at hw hd1 hd2
    rw [← hM]
    have hwp : wrap64 (D * b) = PP := by rw [← hPP]; unfold wrap64; omega
    have hwm : wrap64 (a - PP) = M := by unfold wrap64; omega
    have hDs := hD.symm
    have HH := Lib.hid (And.intro hdm (And.intro hmb hpb))
    clear hdm hmb hpb hD hM hPP ha hb
    go_enter Try.func64, Try.ntmps64
    go_wp2_with fail
    refine (whole _ _).mono ?_
    rintro e w1 ⟨rfl, hb⟩
    obtain ⟨c0, c1, c2, f0, f1, f2, hbel, hz⟩ := res3 w w1 _ _ _ _ hb
    clear hb
    go_wp2_with fail
    obtain ⟨q0, q1, q2⟩ := filled3 w1 w.heap.size _ _ _ (.int .u8 1) (.int .i64 M) (.string ⟨#[]⟩) c0 c1 c2
    refine bodyPost_ret (v := .tuple #[.agg #[.int .u8 1, .int .i64 M, .string ⟨#[]⟩], .int .i64 0]) (by simp [results, Try.results64, go_sem, q0, q1, q2]) rfl ⟨rfl, ?_⟩
    go_grown
end Go.Proofs.Ytaeobillbocemaa.Dt
