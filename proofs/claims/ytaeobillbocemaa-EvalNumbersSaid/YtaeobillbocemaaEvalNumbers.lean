/- EvalNumbers: whatever two numbers, what package eval makes of them by an operation is what the reference does. No conditions. -/
import Derived.Test.YtaeobillbocemaaLift
import Derived.Test.YtaeobillbocemaaEvalWorks
import Derived.Test.YtaeobillbocemaaEvalAt
import Derived.Deep.DeepCutAuto
namespace Go.Proofs.Ytaeobillbocemaa.EvalNumbers
open Go.ChangeShapes Go.WideShapes Go.ChangeAt Go.RowKit Go.Proofs.Ytaeobillbocemaa.By
set_option linter.unusedVariables false
open Go.Proofs.Ytaeobillbocemaa.Dt
set_option maxRecDepth 100000 in
set_option maxHeartbeats 8000000 in
theorem walk (op : Nat) (a b : Int) (w : World) (ho : op < 256) (ha : -9223372036854775808 ≤ a ∧ a ≤ 9223372036854775807) (hb : -9223372036854775808 ≤ b ∧ b ≤ 9223372036854775807) :
    Calls Try.prog 4 #[.int .u8 (op : Int), .int .i64 a, .int .i64 b] w fun e w' => e = .returned (.bool true) ∧ Below w.heap.size w w' := by
  obtain ⟨O, hO⟩ : ∃ O : Nat, O = 6 + op % 5 := ⟨_, rfl⟩
  have HO := Lib.hid (show 6 ≤ O ∧ O ≤ 10 by omega)
  have hOr : (6 + (op : Int) % 5) = (O : Int) := by omega
  clear hO
  have HAB := Lib.hid (And.intro ha hb)
  clear ha hb
  go_enter Try.func4, Try.ntmps4
  go_wp2_with fail
  refine (works _).mono ?_
  rintro e w1 ⟨rfl, hb1⟩
  have B1 := Lib.hid hb1
  clear hb1
  go_wp2_with fail
  refine (numberL a _).mono ?_
  rintro e w2 ⟨rfl, hb2⟩
  have B2 := Lib.hid (next B1.out hb2)
  clear hb2
  go_wp2_with fail
  refine (numberL b _).mono ?_
  rintro e w3 ⟨rfl, hb3⟩
  have B3 := Lib.hid (next B2.out hb3)
  clear hb3
  go_wp2_with fail
  refine (twoL O (numV a) (numV b) _).mono ?_
  rintro e w4 ⟨⟨kv, rfl, hsl⟩, hb4⟩
  have B4 := Lib.hid (next B3.out hb4)
  have hin : (exOf O kv [exV (numV a), exV (numV b)]).In w4 := exOf_in hsl (fun y hy => by simp at hy; rcases hy with rfl | rfl <;> exact exV_in _ _)
  have hok : (exOf O kv [exV (numV a), exV (numV b)]).Ok := exOf_ok (by have := HO.out; omega) (by simp) (fun y hy => by
    simp at hy
    rcases hy with rfl | rfl
    · exact exV_ok (numV_ok HAB.out.1)
    · exact exV_ok (numV_ok HAB.out.2))
  obtain ⟨ax, cx, ekv⟩ := hsl.shape
  have ekx : (exOf O kv [exV (numV a), exV (numV b)]).kv = .slice ax 2 cx := ekv
  clear ekv
  generalize exOf O kv [exV (numV a), exV (numV b)] = x at *
  clear hb4 hsl
  have HIN := Lib.hid hin
  have HOK := Lib.hid hok
  obtain ⟨R, hR⟩ : ∃ R, R = evalS [] x := ⟨_, rfl⟩
  have href := fun W (hb : Below w4.heap.size w4 W) => refEval x (.slice none 0 0) [] W (Ex.in_below (w := w4) hb x hin) hok (SlAt.nil _ _ _) (fun v hv => by cases hv) (by simp)
  have heva := fun W (hb : Below w4.heap.size w4 W) => evalW x (.slice none 0 0) [] W (Ex.in_below (w := w4) hb x hin) hok (SlAt.nil _ _ _) (fun v hv => by cases hv) (by simp)
  rw [← hR] at href heva
  simp only [Ex.val] at href heva ⊢
  rw [ekx] at href heva ⊢
  have HREF := Lib.hid href
  have HEVA := Lib.hid heva
  have hA4 : Below w4.heap.size w4 (w4.alloc (.cells #[.int .u8 (x.op : Int), .int .u8 (x.v.k : Int), .int .i64 x.v.n, .string x.v.s, .string x.t, .string x.m, .int .i64 x.n, (.slice ax 2 cx)] 26)) := (Below.refl _ _).alloc (Nat.le_refl _) _
  have HA4 := Lib.hid hA4
  clear href heva hin hok hR hA4 ekx
  go_wp2_with fail
  refine (HREF.out _ HA4.out).mono ?_
  rintro e w5 ⟨rfl, hb5⟩
  have B5 := Lib.hid (next HA4.out hb5)
  have c0 : w5.cell? ⟨w4.heap.size, 0, none⟩ = some (.int .u8 (x.op : Int)) := (hb5.cell (by simp)).trans (by go_simp)
  have c1 : w5.cell? ⟨w4.heap.size, 1, none⟩ = some (.int .u8 (x.v.k : Int)) := (hb5.cell (by simp)).trans (by go_simp)
  have c2 : w5.cell? ⟨w4.heap.size, 2, none⟩ = some (.int .i64 x.v.n) := (hb5.cell (by simp)).trans (by go_simp)
  have c3 : w5.cell? ⟨w4.heap.size, 3, none⟩ = some (.string x.v.s) := (hb5.cell (by simp)).trans (by go_simp)
  have c4 : w5.cell? ⟨w4.heap.size, 4, none⟩ = some (.string x.t) := (hb5.cell (by simp)).trans (by go_simp)
  have c5 : w5.cell? ⟨w4.heap.size, 5, none⟩ = some (.string x.m) := (hb5.cell (by simp)).trans (by go_simp)
  have c6 : w5.cell? ⟨w4.heap.size, 6, none⟩ = some (.int .i64 x.n) := (hb5.cell (by simp)).trans (by go_simp)
  have c7 : w5.cell? ⟨w4.heap.size, 7, none⟩ = some (.slice ax 2 cx) := (hb5.cell (by simp)).trans (by go_simp)
  have z5 : w4.heap.size < w5.heap.size := cell_lt c0
  clear hb5
  go_upto_region 5 with fail
  have HA5 : Hid (Below w5.heap.size w5 (w5.alloc (.cells #[.int .u8 (R.1.k : Int), .int .i64 R.1.n, .string R.1.s] 23))) := Lib.hid ((Below.refl _ _).alloc (Nat.le_refl _) _)
  have y0 : (w5.alloc (.cells #[.int .u8 (R.1.k : Int), .int .i64 R.1.n, .string R.1.s] 23)).cell? ⟨w4.heap.size, 0, none⟩ = some (.int .u8 (x.op : Int)) := by rw [cell_alloc_lt z5]; exact c0
  have y1 : (w5.alloc (.cells #[.int .u8 (R.1.k : Int), .int .i64 R.1.n, .string R.1.s] 23)).cell? ⟨w4.heap.size, 1, none⟩ = some (.int .u8 (x.v.k : Int)) := by rw [cell_alloc_lt z5]; exact c1
  have y2 : (w5.alloc (.cells #[.int .u8 (R.1.k : Int), .int .i64 R.1.n, .string R.1.s] 23)).cell? ⟨w4.heap.size, 2, none⟩ = some (.int .i64 x.v.n) := by rw [cell_alloc_lt z5]; exact c2
  have y3 : (w5.alloc (.cells #[.int .u8 (R.1.k : Int), .int .i64 R.1.n, .string R.1.s] 23)).cell? ⟨w4.heap.size, 3, none⟩ = some (.string x.v.s) := by rw [cell_alloc_lt z5]; exact c3
  have y4 : (w5.alloc (.cells #[.int .u8 (R.1.k : Int), .int .i64 R.1.n, .string R.1.s] 23)).cell? ⟨w4.heap.size, 4, none⟩ = some (.string x.t) := by rw [cell_alloc_lt z5]; exact c4
  have y5 : (w5.alloc (.cells #[.int .u8 (R.1.k : Int), .int .i64 R.1.n, .string R.1.s] 23)).cell? ⟨w4.heap.size, 5, none⟩ = some (.string x.m) := by rw [cell_alloc_lt z5]; exact c5
  have y6 : (w5.alloc (.cells #[.int .u8 (R.1.k : Int), .int .i64 R.1.n, .string R.1.s] 23)).cell? ⟨w4.heap.size, 6, none⟩ = some (.int .i64 x.n) := by rw [cell_alloc_lt z5]; exact c6
  have y7 : (w5.alloc (.cells #[.int .u8 (R.1.k : Int), .int .i64 R.1.n, .string R.1.s] 23)).cell? ⟨w4.heap.size, 7, none⟩ = some (.slice ax 2 cx) := by rw [cell_alloc_lt z5]; exact c7
  have r0 : (w5.alloc (.cells #[.int .u8 (R.1.k : Int), .int .i64 R.1.n, .string R.1.s] 23)).cell? ⟨w5.heap.size, 0, none⟩ = some (.int .u8 (R.1.k : Int)) := by go_simp
  have r1 : (w5.alloc (.cells #[.int .u8 (R.1.k : Int), .int .i64 R.1.n, .string R.1.s] 23)).cell? ⟨w5.heap.size, 1, none⟩ = some (.int .i64 R.1.n) := by go_simp
  have r2 : (w5.alloc (.cells #[.int .u8 (R.1.k : Int), .int .i64 R.1.n, .string R.1.s] 23)).cell? ⟨w5.heap.size, 2, none⟩ = some (.string R.1.s) := by go_simp
  generalize hWD : w5.alloc (.cells #[.int .u8 (R.1.k : Int), .int .i64 R.1.n, .string R.1.s] 23) = WD at *
  clear hWD c0 c1 c2 c3 c4 c5 c6 c7
  have HBD := Lib.hid (next B5.out HA5.out).drew
  go_region_with (first
    | (go_at_call 19; (with_reducible refine (isL R.1 R.2 _).mono ?_); rintro e wi ⟨⟨p, q, rfl, hcau⟩, hi⟩; have HCAU := Lib.hid hcau; clear hcau; (first | (have x0 := (hi.cell (cell_lt y0)).trans y0; have x1 := (hi.cell (cell_lt y1)).trans y1; have x2 := (hi.cell (cell_lt y2)).trans y2; have x3 := (hi.cell (cell_lt y3)).trans y3; have x4 := (hi.cell (cell_lt y4)).trans y4; have x5 := (hi.cell (cell_lt y5)).trans y5; have x6 := (hi.cell (cell_lt y6)).trans y6; have x7 := (hi.cell (cell_lt y7)).trans y7) | skip))
    | (go_at_call 14; (first | (with_reducible refine (HEVA.out _ (next HBD.out hi)).mono ?_) | (with_reducible refine (HEVA.out _ HBD.out).mono ?_)); rintro e we ⟨rfl, he⟩; (first | (have v0 := (he.cell (cell_lt r0)).trans r0; have v1 := (he.cell (cell_lt r1)).trans r1; have v2 := (he.cell (cell_lt r2)).trans r2) | skip))
    | (go_at_call 35; (first | (with_reducible refine (isYes R.1 R.2 p q _ (HCAU.out.later he)).mono ?_) | (with_reducible refine (isYes R.1 R.2 p q _ HCAU.out).mono ?_)); rintro e wz ⟨rfl, hz⟩))
  all_goals go_wp2_with fail
  all_goals go_ret
  all_goals first | exact ⟨rfl, next (next (next (next B4.out HBD.out) hi) he) hz⟩ | exact ⟨rfl, next (next (next (next B4.out HBD.out) he) hi) hz⟩

theorem own : ownKnob Try.prog.godebug = none := by kernel_rfl
theorem laid : laidOutB Try.prog = true := by kernel_rfl

theorem opened {H : Type} (enc : TypeId × Value → H) (W : World) (args : Array Value) (ds : List (DataW H)) (p : List MemPlace) :
    Lift.Owes enc Try.prog 4 Try.f4.params.toList W args ds p := by
  intro hA hval hsz _
  rw [Try.params4] at hA hval hsz
  obtain ⟨v0, vs0, d0, ds0, p0, q0, hargs, rfl, rfl, h0, r0⟩ := trodAll_cons hA
  obtain ⟨v1, vs1, d1, ds1, p1, q1, rfl, rfl, rfl, h1, r1⟩ := trodAll_cons r0
  obtain ⟨v2, vs2, d2, ds2, p2, q2, rfl, rfl, rfl, h2, r2⟩ := trodAll_cons r1
  obtain ⟨rfl, rfl, rfl⟩ := trodAll_nil r2
  obtain rfl : args = #[v0, v1, v2] := by cases args; simp_all
  obtain ⟨base0, hv0⟩ := hval 0 _ v0 rfl rfl
  obtain ⟨a0, rfl, rfl, rfl, wa0⟩ := open_int Try.underlying5 hv0 h0
  obtain ⟨l0, u0⟩ := bounds_u8 wa0
  obtain ⟨n0, rfl⟩ := Int.eq_ofNat_of_zero_le l0
  obtain ⟨base1, hv1⟩ := hval 1 _ v1 rfl rfl
  obtain ⟨a1, rfl, rfl, rfl, wa1⟩ := open_int Try.underlying2 hv1 h1
  obtain ⟨l1, u1⟩ := bounds_i64 wa1
  obtain ⟨base2, hv2⟩ := hval 2 _ v2 rfl rfl
  obtain ⟨a2, rfl, rfl, rfl, wa2⟩ := open_int Try.underlying2 hv2 h2
  obtain ⟨l2, u2⟩ := bounds_i64 wa2
  exact walk n0 a1 a2 W (by omega) (by omega) (by omega)

set_option maxRecDepth 100000 in
theorem lifted (os : Os) (started : os.Started) (H : Type) (enc : TypeId × Value → H) :
    ReturnsInHanded {} Try.checked os 4 .any (Rows.evalNumbersSpec.pre6 enc Try.prog Try.f4 Rows.evalNumbersRow.domain false)
      (Rows.evalNumbersSpec.post enc Try.prog Try.f4 false true false false) := by
  refine Lift.lifted (C := Try.checked) own started (by kernel_rfl) Try.func4
    (ChangeSpec.witness6 (enc := enc) (C := Try.checked) false ⟨#[], #[.int .u8 0, .int .i64 0, .int .i64 0], []⟩ 8 (by kernel_rfl) (by kernel_rfl) (by kernel_rfl) (by kernel_rfl))
    laid (by rw [Try.params4]; intro t ht; simp at ht; rcases ht with rfl | rfl | rfl <;> exact ⟨by kernel_rfl, of_decide_eq_true (by kernel_rfl)⟩) rfl 4 rfl Try.underlying4
    (fun ds hds => by match ds, hds with | [_, _, _], _ => rfl) (opened enc)

theorem said : Rows.EvalNumbersSaid :=
  OpenClaim.holds_of_wide 4 Try.f4 rfl rfl rfl rfl rfl rfl rfl ⟨rfl, rfl, rfl, rfl, rfl⟩ rfl rfl rfl rfl rfl (by kernel_rfl) Try.func4 (by kernel_rfl)
    (of_decide_eq_true (by kernel_rfl)) (by unfold Func.isWrapper; first | (rw [if_pos (by decide +kernel)]; kernel_rfl) | (rw [if_neg (by decide +kernel)]; exact ⟨rfl, rfl⟩))
    (fun os started H enc _ => lifted os started H enc)
#print axioms said
end Go.Proofs.Ytaeobillbocemaa.EvalNumbers
