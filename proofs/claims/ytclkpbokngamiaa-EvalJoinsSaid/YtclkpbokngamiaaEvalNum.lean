/-
  The walks of package eval on numbers.
-/
import Derived.Test.YtclkpbokngamiaaNumSpecE
import Derived.Test.YtclkpbokngamiaaEvalW
namespace Go.Proofs.Ytclkpbokngamiaa.Dt
open Go.RowKit Go.Proofs.Ytclkpbokngamiaa.By

theorem number (n : Int) (w : World) : Calls Try.prog 31 #[.int .i64 n] w fun e w' => e = .returned (.agg #[.int .u8 1, .int .i64 n, .string ⟨#[]⟩]) ∧ Below w.heap.size w w' := by
  go_enter Try.func31, Try.ntmps31
  go_wp2_with fail
  refine bodyPost_ret (v := .agg #[.int .u8 1, .int .i64 n, .string ⟨#[]⟩]) (by simp [results, Try.results31, go_sem]) rfl ⟨rfl, by go_grown⟩

/-- A result's box behind the call that fills it. -/
theorem res3 (w w1 : World) (t : TypeId) (a b c : Value) (hb : Below (w.alloc (.cells #[a, b, c] t)).heap.size (w.alloc (.cells #[a, b, c] t)) w1) :
    w1.cell? ⟨w.heap.size, 0, none⟩ = some a ∧ w1.cell? ⟨w.heap.size, 1, none⟩ = some b ∧ w1.cell? ⟨w.heap.size, 2, none⟩ = some c ∧
    w1.frozen? ⟨w.heap.size, 0, none⟩ = false ∧ w1.frozen? ⟨w.heap.size, 1, none⟩ = false ∧ w1.frozen? ⟨w.heap.size, 2, none⟩ = false ∧ Below w.heap.size w w1 ∧ w.heap.size < w1.heap.size := by
  have hlt : w.heap.size < (w.alloc (.cells #[a, b, c] t)).heap.size := by simp
  refine ⟨?_, ?_, ?_, ?_, ?_, ?_, ((Below.refl _ _).alloc (Nat.le_refl _) _).trans (hb.mono (Nat.le_of_lt hlt)), Nat.lt_of_lt_of_le hlt hb.size⟩
  · rw [hb.cell hlt]; go_simp
  · rw [hb.cell hlt]; go_simp
  · rw [hb.cell hlt]; go_simp
  · rw [hb.frozen hlt]; go_simp
  · rw [hb.frozen hlt]; go_simp
  · rw [hb.frozen hlt]; go_simp
theorem set_same3 (w : World) (a : Addr) (v u : Value) (h : w.cell? a = some u) : (w.setCell a v).cell? a = some v := by
  apply World.cell?_setCell_same
  exact h
theorem set_else3 (w : World) (k i j : Nat) (v : Value) (h : i ≠ j) : (w.setCell ⟨k, i, none⟩ v).cell? ⟨k, j, none⟩ = w.cell? ⟨k, j, none⟩ := by
  apply World.cell?_setCell_other
  intro e; cases e; exact h rfl
/-- A result's box, filled. -/
theorem filled3 (w : World) (k : Nat) (a b c x y z : Value) (ha : w.cell? ⟨k, 0, none⟩ = some a) (hb : w.cell? ⟨k, 1, none⟩ = some b) (hc : w.cell? ⟨k, 2, none⟩ = some c) :
    (w.setCell ⟨k, 0, none⟩ x).cell? ⟨k, 0, none⟩ = some x ∧ ((w.setCell ⟨k, 0, none⟩ x).setCell ⟨k, 1, none⟩ y).cell? ⟨k, 1, none⟩ = some y ∧ (((w.setCell ⟨k, 0, none⟩ x).setCell ⟨k, 1, none⟩ y).setCell ⟨k, 2, none⟩ z).cell? ⟨k, 2, none⟩ = some z :=
  ⟨set_same3 _ _ _ _ ha, set_same3 _ _ _ _ ((set_else3 _ _ _ _ _ (by omega)).trans hb), set_same3 _ _ _ _ ((set_else3 _ _ _ _ _ (by omega)).trans ((set_else3 _ _ _ _ _ (by omega)).trans hc))⟩

theorem truth (b : Bool) (w : World) : Calls Try.prog 38 #[.bool b] w fun e w' => e = .returned (truthV b).val ∧ Below w.heap.size w w' := by
  cases b
  · go_enter Try.func38, Try.ntmps38
    go_wp2_with fail
    refine (number _ _).mono ?_
    rintro e w1 ⟨rfl, hb⟩
    obtain ⟨c0, c1, c2, f0, f1, f2, hbel, hz⟩ := res3 w w1 _ _ _ _ hb
    clear hb
    go_wp2_with fail
    obtain ⟨q0, q1, q2⟩ := filled3 w1 w.heap.size _ _ _ (.int .u8 1) (.int .i64 0) (.string ⟨#[]⟩) c0 c1 c2
    refine bodyPost_ret (v := .agg #[.int .u8 1, .int .i64 0, .string ⟨#[]⟩]) (by simp [results, Try.results38, go_sem, q0, q1, q2]) rfl ⟨rfl, ?_⟩
    go_grown
  · go_enter Try.func38, Try.ntmps38
    go_wp2_with fail
    refine (number _ _).mono ?_
    rintro e w1 ⟨rfl, hb⟩
    obtain ⟨c0, c1, c2, f0, f1, f2, hbel, hz⟩ := res3 w w1 _ _ _ _ hb
    clear hb
    go_wp2_with fail
    obtain ⟨q0, q1, q2⟩ := filled3 w1 w.heap.size _ _ _ (.int .u8 1) (.int .i64 1) (.string ⟨#[]⟩) c0 c1 c2
    refine bodyPost_ret (v := .agg #[.int .u8 1, .int .i64 1, .string ⟨#[]⟩]) (by simp [results, Try.results38, go_sem, q0, q1, q2]) rfl ⟨rfl, ?_⟩
    go_grown

/-- An overflow, as the machine reckons it. -/
theorem wrap_over (n : Int) (h : ¬ inR n) (h1 : -18446744073709551616 ≤ n) (h2 : n ≤ 18446744073709551614) : ∃ c, wrap64 n = c ∧ (0 ≤ n → c < 0) ∧ (n < 0 → 0 ≤ c) := by
  refine ⟨_, rfl, ?_, ?_⟩ <;> (unfold inR at h; unfold wrap64; omega)

theorem sum (a b : Int) (w : World) (ha : inR a) (hb : inR b) : Calls Try.prog 46 #[.int .i64 a, .int .i64 b] w fun e w' => e = .returned (resV (overS (a + b))) ∧ Below w.heap.size w w' := by
  unfold inR at ha hb
  obtain ⟨ha1, ha2⟩ := ha
  obtain ⟨hb1, hb2⟩ := hb
  by_cases hr : inR (a + b)
  · have hs : overS (a + b) = (numV (a + b), 0) := by unfold overS; rw [if_pos hr]
    rw [hs]; clear hs
    unfold inR at hr
    obtain ⟨hr1, hr2⟩ := hr
    by_cases h1 : a < 0
    · have d1 : decide (a < 0) = true := decide_eq_true h1
      by_cases h2 : b < 0
      · have d2 : decide (b < 0) = true := decide_eq_true h2
        have d3 : decide (a + b < 0) = true := decide_eq_true (by omega)
        go_enter Try.func46, Try.ntmps46
        go_wp2_with fail
        refine (number _ _).mono ?_
        rintro e w1 ⟨rfl, hb⟩
        obtain ⟨c0, c1, c2, f0, f1, f2, hbel, hz⟩ := res3 w w1 _ _ _ _ hb
        clear hb
        go_wp2_with fail
        obtain ⟨q0, q1, q2⟩ := filled3 w1 w.heap.size _ _ _ (.int .u8 1) (.int .i64 (a + b)) (.string ⟨#[]⟩) c0 c1 c2
        refine bodyPost_ret (v := .tuple #[.agg #[.int .u8 1, .int .i64 (a + b), .string ⟨#[]⟩], .int .i64 0]) (by simp [results, Try.results46, go_sem, q0, q1, q2]) rfl ⟨rfl, ?_⟩
        go_grown
      · have d2 : decide (b < 0) = false := decide_eq_false h2
        go_enter Try.func46, Try.ntmps46
        go_wp2_with fail
        refine (number _ _).mono ?_
        rintro e w1 ⟨rfl, hb⟩
        obtain ⟨c0, c1, c2, f0, f1, f2, hbel, hz⟩ := res3 w w1 _ _ _ _ hb
        clear hb
        go_wp2_with fail
        obtain ⟨q0, q1, q2⟩ := filled3 w1 w.heap.size _ _ _ (.int .u8 1) (.int .i64 (a + b)) (.string ⟨#[]⟩) c0 c1 c2
        refine bodyPost_ret (v := .tuple #[.agg #[.int .u8 1, .int .i64 (a + b), .string ⟨#[]⟩], .int .i64 0]) (by simp [results, Try.results46, go_sem, q0, q1, q2]) rfl ⟨rfl, ?_⟩
        go_grown
    · have d1 : decide (a < 0) = false := decide_eq_false h1
      by_cases h2 : b < 0
      · have d2 : decide (b < 0) = true := decide_eq_true h2
        go_enter Try.func46, Try.ntmps46
        go_wp2_with fail
        refine (number _ _).mono ?_
        rintro e w1 ⟨rfl, hb⟩
        obtain ⟨c0, c1, c2, f0, f1, f2, hbel, hz⟩ := res3 w w1 _ _ _ _ hb
        clear hb
        go_wp2_with fail
        obtain ⟨q0, q1, q2⟩ := filled3 w1 w.heap.size _ _ _ (.int .u8 1) (.int .i64 (a + b)) (.string ⟨#[]⟩) c0 c1 c2
        refine bodyPost_ret (v := .tuple #[.agg #[.int .u8 1, .int .i64 (a + b), .string ⟨#[]⟩], .int .i64 0]) (by simp [results, Try.results46, go_sem, q0, q1, q2]) rfl ⟨rfl, ?_⟩
        go_grown
      · have d2 : decide (b < 0) = false := decide_eq_false h2
        have d3 : decide (a + b < 0) = false := decide_eq_false (by omega)
        go_enter Try.func46, Try.ntmps46
        go_wp2_with fail
        refine (number _ _).mono ?_
        rintro e w1 ⟨rfl, hb⟩
        obtain ⟨c0, c1, c2, f0, f1, f2, hbel, hz⟩ := res3 w w1 _ _ _ _ hb
        clear hb
        go_wp2_with fail
        obtain ⟨q0, q1, q2⟩ := filled3 w1 w.heap.size _ _ _ (.int .u8 1) (.int .i64 (a + b)) (.string ⟨#[]⟩) c0 c1 c2
        refine bodyPost_ret (v := .tuple #[.agg #[.int .u8 1, .int .i64 (a + b), .string ⟨#[]⟩], .int .i64 0]) (by simp [results, Try.results46, go_sem, q0, q1, q2]) rfl ⟨rfl, ?_⟩
        go_grown
  · have hs : overS (a + b) = (nullV, 152) := by unfold overS; rw [if_neg hr]
    rw [hs]; clear hs
    obtain ⟨c, hc, hc1, hc2⟩ := wrap_over (a + b) hr (by omega) (by omega)
    unfold inR at hr
    have HR := Lib.hid hr
    by_cases h1 : a < 0
    · have d1 : decide (a < 0) = true := decide_eq_true h1
      have d2 : decide (b < 0) = true := decide_eq_true (by omega)
      have d3 : decide (c < 0) = false := decide_eq_false (by have := hc2 (by omega); omega)
      clear hr hc1 hc2
      go_enter Try.func46, Try.ntmps46
      go_wp2_with fail
      refine bodyPost_ret (v := .tuple #[.agg #[.int .u8 0, .int .i64 0, .string ⟨#[]⟩], .int .i64 152]) (by simp [results, Try.results46, go_sem]) rfl ⟨rfl, ?_⟩
      go_grown
    · have d1 : decide (a < 0) = false := decide_eq_false h1
      have d2 : decide (b < 0) = false := decide_eq_false (by omega)
      have d3 : decide (c < 0) = true := decide_eq_true (hc1 (by omega))
      clear hr hc1 hc2
      go_enter Try.func46, Try.ntmps46
      go_wp2_with fail
      refine bodyPost_ret (v := .tuple #[.agg #[.int .u8 0, .int .i64 0, .string ⟨#[]⟩], .int .i64 152]) (by simp [results, Try.results46, go_sem]) rfl ⟨rfl, ?_⟩
      go_grown
end Go.Proofs.Ytclkpbokngamiaa.Dt
