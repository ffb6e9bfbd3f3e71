/-
  The walk of package eval's product.
-/
import Derived.Test.YtclkpbokngamiaaEvalNum
namespace Go.Proofs.Ytclkpbokngamiaa.Dt
open Go.RowKit Go.Proofs.Ytclkpbokngamiaa.By

theorem neg_u64 (n : Int) (h : inR n) (h0 : n < 0) : IntKind.u64.wrap (-(IntKind.u64.wrap n)) = (n.natAbs : Int) := by
  unfold inR at h
  rw [IntKind.wrap_u64, IntKind.wrap_u64]; omega
theorem pos_u64 (n : Int) (h : inR n) (h0 : ¬ n < 0) : IntKind.u64.wrap n = (n.natAbs : Int) := by
  unfold inR at h
  rw [IntKind.wrap_u64]; omega
theorem abs76 (n : Int) (w : World) (h : inR n) : Calls Try.prog 49 #[.int .i64 n] w fun e w' => e = .returned (.int .u64 (n.natAbs : Int)) ∧ w = w' := by
  by_cases h0 : n < 0
  · have HE := Lib.hid (neg_u64 n h h0); clear h
    go_enter Try.func49, Try.ntmps49
    go_wp2_with fail
    go_ret
    exact ⟨by rw [← HE.out]; rfl, rfl⟩
  · have HE := Lib.hid (pos_u64 n h h0); clear h
    go_enter Try.func49, Try.ntmps49
    go_wp2_with fail
    go_ret
    exact ⟨by rw [← HE.out]; rfl, rfl⟩

theorem mul_sign (a b : Int) : ((a < 0 ∧ ¬ b < 0) ∨ (¬ a < 0 ∧ b < 0) → a * b ≤ 0) ∧ ((a < 0 ∧ b < 0) ∨ (¬ a < 0 ∧ ¬ b < 0) → 0 ≤ a * b) := by
  constructor
  · rintro (⟨h1, h2⟩ | ⟨h1, h2⟩)
    · exact Int.mul_nonpos_of_nonpos_of_nonneg (by omega) (by omega)
    · exact Int.mul_nonpos_of_nonneg_of_nonpos (by omega) (by omega)
  · rintro (⟨h1, h2⟩ | ⟨h1, h2⟩)
    · exact Int.mul_nonneg_of_nonpos_of_nonpos (by omega) (by omega)
    · exact Int.mul_nonneg (by omega) (by omega)
theorem back_neg (l X : Int) (h : X = -l) (h0 : 0 ≤ l) (h1 : l ≤ 9223372036854775808) : wrap64 (IntKind.u64.wrap (-l)) = X := by
  rw [IntKind.wrap_u64]; unfold wrap64; omega
theorem back_pos (l X : Int) (h : X = l) (h0 : 0 ≤ l) (h1 : l < 9223372036854775808) : wrap64 l = X := by
  unfold wrap64; omega

set_option maxHeartbeats 2000000 in
theorem product (a b : Int) (w : World) (ha : inR a) (hb : inR b) : Calls Try.prog 47 #[.int .i64 a, .int .i64 b] w fun e w' => e = .returned (resV (overS (a * b))) ∧ Below w.heap.size w w' := by
  have hA : a.natAbs < 18446744073709551616 := by unfold inR at ha; omega
  have hB : b.natAbs < 18446744073709551616 := by unfold inR at hb; omega
  have HA := Lib.hid ha
  have HB := Lib.hid hb
  obtain ⟨X, hX⟩ : ∃ X, X = a * b := ⟨_, rfl⟩
  obtain ⟨hi, hhi⟩ : ∃ hi, hi = a.natAbs * b.natAbs / 18446744073709551616 := ⟨_, rfl⟩
  obtain ⟨lo, hlo⟩ : ∃ lo, lo = a.natAbs * b.natAbs % 18446744073709551616 := ⟨_, rfl⟩
  have hM := fun w => Try.bits_Mul64 a.natAbs b.natAbs hA hB w
  rw [← hhi, ← hlo] at hM
  have hp : X.natAbs = a.natAbs * b.natAbs := by rw [hX, Int.natAbs_mul]
  rw [← hp] at hhi hlo
  have hs := mul_sign a b
  rw [← hX] at hs ⊢
  have HM := Lib.hid hM
  clear hM hp hX hA hB ha hb
  have hl18 : lo < 18446744073709551616 := by omega
  have keep : 18446744073709551616 * hi + lo = X.natAbs := by omega
  clear hhi hlo
  by_cases hr : inR X
  · have ho : overS X = (numV X, 0) := by unfold overS; rw [if_pos hr]
    rw [ho]; clear ho
    unfold inR at hr
    have hi0 : hi = 0 := by omega
    subst hi0
    by_cases h1 : a < 0
    · by_cases h2 : b < 0
      · have hsg := hs.2 (.inl ⟨h1, h2⟩)
        have d1 : decide (a < 0) = true := decide_eq_true h1
        have d2 : decide (b < 0) = true := decide_eq_true h2
        have t1 : (9223372036854775808 : Int) ≤ (lo : Int) ↔ False := iff_of_false (by omega) id
        have HX := Lib.hid (back_pos lo X (by omega) (by omega) (by omega))
        clear hr keep hs hsg hl18
        go_enter Try.func47, Try.ntmps47
        go_wp2_with fail
        refine (abs76 a _ HA.out).mono ?_
        rintro e w' ⟨rfl, rfl⟩
        go_wp2_with fail
        refine (abs76 b _ HB.out).mono ?_
        rintro e w' ⟨rfl, rfl⟩
        go_wp2_with fail
        refine (HM.out _).mono ?_
        rintro e w1 ⟨rfl, rfl⟩
        go_wp2_with fail
        rw [HX.out]
        refine (number _ _).mono ?_
        rintro e w1 ⟨rfl, hb⟩
        obtain ⟨c0, c1, c2, f0, f1, f2, hbel, hz⟩ := res3 w w1 _ _ _ _ hb
        clear hb
        go_wp2_with fail
        obtain ⟨q0, q1, q2⟩ := filled3 w1 w.heap.size _ _ _ (.int .u8 1) (.int .i64 X) (.string ⟨#[]⟩) c0 c1 c2
        refine bodyPost_ret (v := .tuple #[.agg #[.int .u8 1, .int .i64 X, .string ⟨#[]⟩], .int .i64 0]) (by simp [results, Try.results47, go_sem, q0, q1, q2]) rfl ⟨rfl, ?_⟩
        go_grown
      · have hsg := hs.1 (.inl ⟨h1, h2⟩)
        have d1 : decide (a < 0) = true := decide_eq_true h1
        have d2 : decide (b < 0) = false := decide_eq_false h2
        have t1 : (9223372036854775808 : Int) < (lo : Int) ↔ False := iff_of_false (by omega) id
        have HX := Lib.hid (back_neg lo X (by omega) (by omega) (by omega))
        clear hr keep hs hsg hl18
        go_enter Try.func47, Try.ntmps47
        go_wp2_with fail
        refine (abs76 a _ HA.out).mono ?_
        rintro e w' ⟨rfl, rfl⟩
        go_wp2_with fail
        refine (abs76 b _ HB.out).mono ?_
        rintro e w' ⟨rfl, rfl⟩
        go_wp2_with fail
        refine (HM.out _).mono ?_
        rintro e w1 ⟨rfl, rfl⟩
        go_wp2_with fail
        rw [HX.out]
        refine (number _ _).mono ?_
        rintro e w1 ⟨rfl, hb⟩
        obtain ⟨c0, c1, c2, f0, f1, f2, hbel, hz⟩ := res3 w w1 _ _ _ _ hb
        clear hb
        go_wp2_with fail
        obtain ⟨q0, q1, q2⟩ := filled3 w1 w.heap.size _ _ _ (.int .u8 1) (.int .i64 X) (.string ⟨#[]⟩) c0 c1 c2
        refine bodyPost_ret (v := .tuple #[.agg #[.int .u8 1, .int .i64 X, .string ⟨#[]⟩], .int .i64 0]) (by simp [results, Try.results47, go_sem, q0, q1, q2]) rfl ⟨rfl, ?_⟩
        go_grown
    · by_cases h2 : b < 0
      · have hsg := hs.1 (.inr ⟨h1, h2⟩)
        have d1 : decide (a < 0) = false := decide_eq_false h1
        have d2 : decide (b < 0) = true := decide_eq_true h2
        have t1 : (9223372036854775808 : Int) < (lo : Int) ↔ False := iff_of_false (by omega) id
        have HX := Lib.hid (back_neg lo X (by omega) (by omega) (by omega))
        clear hr keep hs hsg hl18
        go_enter Try.func47, Try.ntmps47
        go_wp2_with fail
        refine (abs76 a _ HA.out).mono ?_
        rintro e w' ⟨rfl, rfl⟩
        go_wp2_with fail
        refine (abs76 b _ HB.out).mono ?_
        rintro e w' ⟨rfl, rfl⟩
        go_wp2_with fail
        refine (HM.out _).mono ?_
        rintro e w1 ⟨rfl, rfl⟩
        go_wp2_with fail
        rw [HX.out]
        refine (number _ _).mono ?_
        rintro e w1 ⟨rfl, hb⟩
        obtain ⟨c0, c1, c2, f0, f1, f2, hbel, hz⟩ := res3 w w1 _ _ _ _ hb
        clear hb
        go_wp2_with fail
        obtain ⟨q0, q1, q2⟩ := filled3 w1 w.heap.size _ _ _ (.int .u8 1) (.int .i64 X) (.string ⟨#[]⟩) c0 c1 c2
        refine bodyPost_ret (v := .tuple #[.agg #[.int .u8 1, .int .i64 X, .string ⟨#[]⟩], .int .i64 0]) (by simp [results, Try.results47, go_sem, q0, q1, q2]) rfl ⟨rfl, ?_⟩
        go_grown
      · have hsg := hs.2 (.inr ⟨h1, h2⟩)
        have d1 : decide (a < 0) = false := decide_eq_false h1
        have d2 : decide (b < 0) = false := decide_eq_false h2
        have t1 : (9223372036854775808 : Int) ≤ (lo : Int) ↔ False := iff_of_false (by omega) id
        have HX := Lib.hid (back_pos lo X (by omega) (by omega) (by omega))
        clear hr keep hs hsg hl18
        go_enter Try.func47, Try.ntmps47
        go_wp2_with fail
        refine (abs76 a _ HA.out).mono ?_
        rintro e w' ⟨rfl, rfl⟩
        go_wp2_with fail
        refine (abs76 b _ HB.out).mono ?_
        rintro e w' ⟨rfl, rfl⟩
        go_wp2_with fail
        refine (HM.out _).mono ?_
        rintro e w1 ⟨rfl, rfl⟩
        go_wp2_with fail
        rw [HX.out]
        refine (number _ _).mono ?_
        rintro e w1 ⟨rfl, hb⟩
        obtain ⟨c0, c1, c2, f0, f1, f2, hbel, hz⟩ := res3 w w1 _ _ _ _ hb
        clear hb
        go_wp2_with fail
        obtain ⟨q0, q1, q2⟩ := filled3 w1 w.heap.size _ _ _ (.int .u8 1) (.int .i64 X) (.string ⟨#[]⟩) c0 c1 c2
        refine bodyPost_ret (v := .tuple #[.agg #[.int .u8 1, .int .i64 X, .string ⟨#[]⟩], .int .i64 0]) (by simp [results, Try.results47, go_sem, q0, q1, q2]) rfl ⟨rfl, ?_⟩
        go_grown
  · have ho : overS X = (nullV, 152) := by unfold overS; rw [if_neg hr]
    rw [ho]; clear ho
    unfold inR at hr
    by_cases hi0 : hi = 0
    · subst hi0
      by_cases h1 : a < 0
      · by_cases h2 : b < 0
        · have hsg := hs.2 (.inl ⟨h1, h2⟩)
          have d1 : decide (a < 0) = true := decide_eq_true h1
          have d2 : decide (b < 0) = true := decide_eq_true h2
          have t1 : (9223372036854775808 : Int) ≤ (lo : Int) ↔ True := iff_of_true (by omega) trivial
          clear hr keep hs hsg hl18
          go_enter Try.func47, Try.ntmps47
          go_wp2_with fail
          refine (abs76 a _ HA.out).mono ?_
          rintro e w' ⟨rfl, rfl⟩
          go_wp2_with fail
          refine (abs76 b _ HB.out).mono ?_
          rintro e w' ⟨rfl, rfl⟩
          go_wp2_with fail
          refine (HM.out _).mono ?_
          rintro e w1 ⟨rfl, rfl⟩
          go_wp2_with fail
          refine bodyPost_ret (v := .tuple #[.agg #[.int .u8 0, .int .i64 0, .string ⟨#[]⟩], .int .i64 152]) (by simp [results, Try.results47, go_sem]) rfl ⟨rfl, ?_⟩
          go_grown
        · have hsg := hs.1 (.inl ⟨h1, h2⟩)
          have d1 : decide (a < 0) = true := decide_eq_true h1
          have d2 : decide (b < 0) = false := decide_eq_false h2
          have t1 : (9223372036854775808 : Int) < (lo : Int) ↔ True := iff_of_true (by omega) trivial
          clear hr keep hs hsg hl18
          go_enter Try.func47, Try.ntmps47
          go_wp2_with fail
          refine (abs76 a _ HA.out).mono ?_
          rintro e w' ⟨rfl, rfl⟩
          go_wp2_with fail
          refine (abs76 b _ HB.out).mono ?_
          rintro e w' ⟨rfl, rfl⟩
          go_wp2_with fail
          refine (HM.out _).mono ?_
          rintro e w1 ⟨rfl, rfl⟩
          go_wp2_with fail
          refine bodyPost_ret (v := .tuple #[.agg #[.int .u8 0, .int .i64 0, .string ⟨#[]⟩], .int .i64 152]) (by simp [results, Try.results47, go_sem]) rfl ⟨rfl, ?_⟩
          go_grown
      · by_cases h2 : b < 0
        · have hsg := hs.1 (.inr ⟨h1, h2⟩)
          have d1 : decide (a < 0) = false := decide_eq_false h1
          have d2 : decide (b < 0) = true := decide_eq_true h2
          have t1 : (9223372036854775808 : Int) < (lo : Int) ↔ True := iff_of_true (by omega) trivial
          clear hr keep hs hsg hl18
          go_enter Try.func47, Try.ntmps47
          go_wp2_with fail
          refine (abs76 a _ HA.out).mono ?_
          rintro e w' ⟨rfl, rfl⟩
          go_wp2_with fail
          refine (abs76 b _ HB.out).mono ?_
          rintro e w' ⟨rfl, rfl⟩
          go_wp2_with fail
          refine (HM.out _).mono ?_
          rintro e w1 ⟨rfl, rfl⟩
          go_wp2_with fail
          refine bodyPost_ret (v := .tuple #[.agg #[.int .u8 0, .int .i64 0, .string ⟨#[]⟩], .int .i64 152]) (by simp [results, Try.results47, go_sem]) rfl ⟨rfl, ?_⟩
          go_grown
        · have hsg := hs.2 (.inr ⟨h1, h2⟩)
          have d1 : decide (a < 0) = false := decide_eq_false h1
          have d2 : decide (b < 0) = false := decide_eq_false h2
          have t1 : (9223372036854775808 : Int) ≤ (lo : Int) ↔ True := iff_of_true (by omega) trivial
          clear hr keep hs hsg hl18
          go_enter Try.func47, Try.ntmps47
          go_wp2_with fail
          refine (abs76 a _ HA.out).mono ?_
          rintro e w' ⟨rfl, rfl⟩
          go_wp2_with fail
          refine (abs76 b _ HB.out).mono ?_
          rintro e w' ⟨rfl, rfl⟩
          go_wp2_with fail
          refine (HM.out _).mono ?_
          rintro e w1 ⟨rfl, rfl⟩
          go_wp2_with fail
          refine bodyPost_ret (v := .tuple #[.agg #[.int .u8 0, .int .i64 0, .string ⟨#[]⟩], .int .i64 152]) (by simp [results, Try.results47, go_sem]) rfl ⟨rfl, ?_⟩
          go_grown
    · have d0 : ((hi : Int) != 0) = true := by simp; omega
      clear hr keep hs hl18
      by_cases h1 : a < 0
      · by_cases h2 : b < 0
        · have d1 : decide (a < 0) = true := decide_eq_true h1
          have d2 : decide (b < 0) = true := decide_eq_true h2
          go_enter Try.func47, Try.ntmps47
          go_wp2_with fail
          refine (abs76 a _ HA.out).mono ?_
          rintro e w' ⟨rfl, rfl⟩
          go_wp2_with fail
          refine (abs76 b _ HB.out).mono ?_
          rintro e w' ⟨rfl, rfl⟩
          go_wp2_with fail
          refine (HM.out _).mono ?_
          rintro e w1 ⟨rfl, rfl⟩
          go_wp2_with fail
          refine bodyPost_ret (v := .tuple #[.agg #[.int .u8 0, .int .i64 0, .string ⟨#[]⟩], .int .i64 152]) (by simp [results, Try.results47, go_sem]) rfl ⟨rfl, ?_⟩
          go_grown
        · have d1 : decide (a < 0) = true := decide_eq_true h1
          have d2 : decide (b < 0) = false := decide_eq_false h2
          go_enter Try.func47, Try.ntmps47
          go_wp2_with fail
          refine (abs76 a _ HA.out).mono ?_
          rintro e w' ⟨rfl, rfl⟩
          go_wp2_with fail
          refine (abs76 b _ HB.out).mono ?_
          rintro e w' ⟨rfl, rfl⟩
          go_wp2_with fail
          refine (HM.out _).mono ?_
          rintro e w1 ⟨rfl, rfl⟩
          go_wp2_with fail
          refine bodyPost_ret (v := .tuple #[.agg #[.int .u8 0, .int .i64 0, .string ⟨#[]⟩], .int .i64 152]) (by simp [results, Try.results47, go_sem]) rfl ⟨rfl, ?_⟩
          go_grown
      · by_cases h2 : b < 0
        · have d1 : decide (a < 0) = false := decide_eq_false h1
          have d2 : decide (b < 0) = true := decide_eq_true h2
          go_enter Try.func47, Try.ntmps47
          go_wp2_with fail
          refine (abs76 a _ HA.out).mono ?_
          rintro e w' ⟨rfl, rfl⟩
          go_wp2_with fail
          refine (abs76 b _ HB.out).mono ?_
          rintro e w' ⟨rfl, rfl⟩
          go_wp2_with fail
          refine (HM.out _).mono ?_
          rintro e w1 ⟨rfl, rfl⟩
          go_wp2_with fail
          refine bodyPost_ret (v := .tuple #[.agg #[.int .u8 0, .int .i64 0, .string ⟨#[]⟩], .int .i64 152]) (by simp [results, Try.results47, go_sem]) rfl ⟨rfl, ?_⟩
          go_grown
        · have d1 : decide (a < 0) = false := decide_eq_false h1
          have d2 : decide (b < 0) = false := decide_eq_false h2
          go_enter Try.func47, Try.ntmps47
          go_wp2_with fail
          refine (abs76 a _ HA.out).mono ?_
          rintro e w' ⟨rfl, rfl⟩
          go_wp2_with fail
          refine (abs76 b _ HB.out).mono ?_
          rintro e w' ⟨rfl, rfl⟩
          go_wp2_with fail
          refine (HM.out _).mono ?_
          rintro e w1 ⟨rfl, rfl⟩
          go_wp2_with fail
          refine bodyPost_ret (v := .tuple #[.agg #[.int .u8 0, .int .i64 0, .string ⟨#[]⟩], .int .i64 152]) (by simp [results, Try.results47, go_sem]) rfl ⟨rfl, ?_⟩
          go_grown
end Go.Proofs.Ytclkpbokngamiaa.Dt
