/- EvalEvals: the law returns true at every input. -/
import Derived.Test.YtaeobillbocemaaLift
import Derived.Test.YtaeobillbocemaaEvalWorks
import Derived.Test.YtaeobillbocemaaEvalSize
import Derived.Test.YtaeobillbocemaaEvalGreat
import Derived.Test.YtaeobillbocemaaEvalAt
import Derived.Test.YtaeobillbocemaaTypes
namespace Go.Proofs.Ytaeobillbocemaa.EvalEvals
open Go.ChangeShapes Go.WideShapes Go.ChangeAt Go.RowKit Go.Proofs.Ytaeobillbocemaa.By
set_option linter.unusedVariables false
-- witness .agg #[.int .u8 0, .int .u8 0, .int .i64 0, .string ByteArray.empty, .string ByteArray.empty, .string ByteArray.empty, .int .i64 0, .slice none 0 0]
-- witness .slice none 0 0
/- EvalEvals: whatever expression and row, what package eval says that it comes to is what the reference says. No conditions. -/
open Go.Proofs.Ytaeobillbocemaa.Dt
set_option maxRecDepth 100000 in
set_option maxHeartbeats 8000000 in
theorem walk (x : Ex) (rv : Value) (row : List V) (w : World) (hin : x.In w) (hok : x.Ok) (hr : VsAt w rv row) (hrok : ∀ v ∈ row, v.ok) (hrl : row.length ≤ 140737488351232) :
    Calls Try.prog 3 #[x.val, rv] w fun e w' => e = .returned (.bool true) ∧ Below w.heap.size w w' := by
  obtain ⟨ax, cx, ekx⟩ := Ex.kv_of hin
  obtain ⟨R, hR⟩ : ∃ R, R = evalS row x := ⟨_, rfl⟩
  have hsz := fun W (hb : Below w.heap.size w W) => sizeL x 0 W (Ex.in_below (w := w) hb x hin) hok
  have hev := fun W (hb : Below w.heap.size w W) => evalW x rv row W (Ex.in_below (w := w) hb x hin) hok (hr.below hb) hrok hrl
  have hre := fun W (hb : Below w.heap.size w W) => refEval x rv row W (Ex.in_below (w := w) hb x hin) hok (hr.below hb) hrok hrl
  have hgr := fun W (hb : Below w.heap.size w W) => greatL (.slice (some ⟨W.heap.size, 0, none⟩) 1 1) [⟨rv, row⟩] (W.alloc (.cells #[rv] 27)) ⟨rows_one W _ rv row, fun r hr' => by
    simp at hr'; subst hr'; exact (hr.below hb).below ((Below.refl _ _).alloc (Nat.le_refl _) _)⟩ (by simp) (fun r hr' => by simp at hr'; subst hr'; exact hrl) (fun r hr' => by simp at hr'; subst hr'; exact hrok)
  rw [← hR] at hev hre
  obtain ⟨ar, cr, rfl⟩ := hr.shape
  have HBA : Hid (Below w.heap.size w (w.alloc (.cells #[.int .u8 (x.op : Int), .int .u8 (x.v.k : Int), .int .i64 x.v.n, .string x.v.s, .string x.t, .string x.m, .int .i64 x.n, .slice ax x.kids.length cx] 26))) := Lib.hid ((Below.refl _ _).alloc (Nat.le_refl _) _)
  have hx8 := box_cells w (w.alloc (.cells #[.int .u8 (x.op : Int), .int .u8 (x.v.k : Int), .int .i64 x.v.n, .string x.v.s, .string x.t, .string x.m, .int .i64 x.n, .slice ax x.kids.length cx] 26)) x 26 (by simp only [exBox, ekx]; exact Below.refl _ _)
  simp only [Ex.val] at hsz hev hre ⊢
  rw [ekx] at hsz hev hre hx8 ⊢
  have HSZ := Lib.hid hsz
  have HEV := Lib.hid hev
  have HRE := Lib.hid hre
  have HGR := Lib.hid hgr
  clear hsz hev hre hgr hR hin hok hr hrok ekx
  go_enter Try.func3, Try.ntmps3
  go_wp2_with fail
  generalize hWA : w.alloc (.cells #[.int .u8 (x.op : Int), .int .u8 (x.v.k : Int), .int .i64 x.v.n, .string x.v.s, .string x.t, .string x.m, .int .i64 x.n, .slice ax x.kids.length cx] 26) = WA at *
  clear hWA
  refine (works _).mono ?_
  rintro e w1 ⟨rfl, hb1⟩
  have B1 := Lib.hid (next HBA.out hb1)
  obtain ⟨x0, x1, x2, x3, x4, x5, x6, x7⟩ := hx8
  have y0 := (hb1.cell (cell_lt x0)).trans x0
  have y1 := (hb1.cell (cell_lt x1)).trans x1
  have y2 := (hb1.cell (cell_lt x2)).trans x2
  have y3 := (hb1.cell (cell_lt x3)).trans x3
  have y4 := (hb1.cell (cell_lt x4)).trans x4
  have y5 := (hb1.cell (cell_lt x5)).trans x5
  have y6 := (hb1.cell (cell_lt x6)).trans x6
  have y7 := (hb1.cell (cell_lt x7)).trans x7
  clear x0 x1 x2 x3 x4 x5 x6 x7
  clear hb1
  go_wp2_with fail
  refine (HSZ.out _ B1.out).mono ?_
  rintro e w2 ⟨⟨n, rfl⟩, hb2⟩
  have B2 := Lib.hid (next B1.out hb2)
  have x0 := (hb2.cell (cell_lt y0)).trans y0
  have x1 := (hb2.cell (cell_lt y1)).trans y1
  have x2 := (hb2.cell (cell_lt y2)).trans y2
  have x3 := (hb2.cell (cell_lt y3)).trans y3
  have x4 := (hb2.cell (cell_lt y4)).trans y4
  have x5 := (hb2.cell (cell_lt y5)).trans y5
  have x6 := (hb2.cell (cell_lt y6)).trans y6
  have x7 := (hb2.cell (cell_lt y7)).trans y7
  clear y0 y1 y2 y3 y4 y5 y6 y7
  clear hb2
  by_cases hn : 300 < n
  · have en : decide (300 < n) = true := decide_eq_true hn
    clear hn
    go_wp2_with fail
    go_ret
    exact ⟨rfl, B2.out⟩
  · have en : decide (300 < n) = false := decide_eq_false hn
    clear hn
    go_wp2_with fail
    refine (HGR.out _ B2.out).mono ?_
    rintro e w3 ⟨⟨b, rfl⟩, hb3⟩
    have hA : Below w2.heap.size w2 w3 := next ((Below.refl _ w2).alloc (Nat.le_refl _) _) hb3
    have B3 := Lib.hid (next B2.out hA)
    have y0 := (hA.cell (cell_lt x0)).trans x0
    have y1 := (hA.cell (cell_lt x1)).trans x1
    have y2 := (hA.cell (cell_lt x2)).trans x2
    have y3 := (hA.cell (cell_lt x3)).trans x3
    have y4 := (hA.cell (cell_lt x4)).trans x4
    have y5 := (hA.cell (cell_lt x5)).trans x5
    have y6 := (hA.cell (cell_lt x6)).trans x6
    have y7 := (hA.cell (cell_lt x7)).trans x7
    clear x0 x1 x2 x3 x4 x5 x6 x7
    clear hb3 hA
    cases b
    · go_wp2_with fail
      refine (HEV.out _ B3.out).mono ?_
      rintro e w4 ⟨rfl, hb4⟩
      have B4 := Lib.hid (next B3.out hb4)
      have x0 := (hb4.cell (cell_lt y0)).trans y0
      have x1 := (hb4.cell (cell_lt y1)).trans y1
      have x2 := (hb4.cell (cell_lt y2)).trans y2
      have x3 := (hb4.cell (cell_lt y3)).trans y3
      have x4 := (hb4.cell (cell_lt y4)).trans y4
      have x5 := (hb4.cell (cell_lt y5)).trans y5
      have x6 := (hb4.cell (cell_lt y6)).trans y6
      have x7 := (hb4.cell (cell_lt y7)).trans y7
      clear y0 y1 y2 y3 y4 y5 y6 y7
      have z4 : w.heap.size < w4.heap.size := cell_lt x0
      have HA4 : Hid (Below w4.heap.size w4 (w4.alloc (.cells #[.int .u8 (R.1.k : Int), .int .i64 R.1.n, .string R.1.s] 23))) := Lib.hid ((Below.refl _ _).alloc (Nat.le_refl _) _)
      clear hb4
      go_wp2_with fail
      refine (HRE.out _ (next B4.out HA4.out)).mono ?_
      rintro e w5 ⟨rfl, hb5⟩
      have B5 := Lib.hid (next (next B4.out HA4.out) hb5)
      have r0 : w5.cell? ⟨w4.heap.size, 0, none⟩ = some (.int .u8 (R.1.k : Int)) := (hb5.cell (by simp)).trans (by go_simp)
      have r1 : w5.cell? ⟨w4.heap.size, 1, none⟩ = some (.int .i64 R.1.n) := (hb5.cell (by simp)).trans (by go_simp)
      have r2 : w5.cell? ⟨w4.heap.size, 2, none⟩ = some (.string R.1.s) := (hb5.cell (by simp)).trans (by go_simp)
      have z5 : w4.heap.size < w5.heap.size := cell_lt r0
      clear hb5 x0 x1 x2 x3 x4 x5 x6 x7
      go_upto_region 7 with fail
      have s0 : (w5.alloc (.cells #[.int .u8 (R.1.k : Int), .int .i64 R.1.n, .string R.1.s] 23)).cell? ⟨w4.heap.size, 0, none⟩ = some (.int .u8 (R.1.k : Int)) := by rw [cell_alloc_lt z5]; exact r0
      have s1 : (w5.alloc (.cells #[.int .u8 (R.1.k : Int), .int .i64 R.1.n, .string R.1.s] 23)).cell? ⟨w4.heap.size, 1, none⟩ = some (.int .i64 R.1.n) := by rw [cell_alloc_lt z5]; exact r1
      have s2 : (w5.alloc (.cells #[.int .u8 (R.1.k : Int), .int .i64 R.1.n, .string R.1.s] 23)).cell? ⟨w4.heap.size, 2, none⟩ = some (.string R.1.s) := by rw [cell_alloc_lt z5]; exact r2
      have t0 : (w5.alloc (.cells #[.int .u8 (R.1.k : Int), .int .i64 R.1.n, .string R.1.s] 23)).cell? ⟨w5.heap.size, 0, none⟩ = some (.int .u8 (R.1.k : Int)) := by go_simp
      have t1 : (w5.alloc (.cells #[.int .u8 (R.1.k : Int), .int .i64 R.1.n, .string R.1.s] 23)).cell? ⟨w5.heap.size, 1, none⟩ = some (.int .i64 R.1.n) := by go_simp
      have t2 : (w5.alloc (.cells #[.int .u8 (R.1.k : Int), .int .i64 R.1.n, .string R.1.s] 23)).cell? ⟨w5.heap.size, 2, none⟩ = some (.string R.1.s) := by go_simp
      have B6 : Hid (Below w.heap.size w (w5.alloc (.cells #[.int .u8 (R.1.k : Int), .int .i64 R.1.n, .string R.1.s] 23))) := Lib.hid (B5.out.alloc B5.out.size _)
      generalize hWD : w5.alloc (.cells #[.int .u8 (R.1.k : Int), .int .i64 R.1.n, .string R.1.s] 23) = WD at *
      clear hWD r0 r1 r2
      have l0 := lat_cell s0
      have l1 := lat_cell s1
      have l2 := lat_cell s2
      have k0 := lat_cell t0
      have k1 := lat_cell t1
      have k2 := lat_cell t2
      by_cases hk : R.1.k = 1
      · have e1 : ((R.1.k : Int) == 1) = true := by simp [hk]
        have ht : trueB R.1 = (R.1.n != 0) := by rw [Bool.eq_iff_iff]; simp [trueB, hk]
        have HTR := Lib.hid (fun W => trueW R.1 W)
        rw [ht] at HTR
        clear ht hk
        refine wp_region_later (by kernel_rfl) (by kernel_rfl) ?_
        repeat (go_big_quiet_step ((go_at_call 16; exact lat_calls (HTR.out _))))
        refine wpQuiet_nil ?_
        refine later_out (fun wf hbf => ?_)
        go_wp2_with fail
        go_ret
        exact ⟨ret_bool (by simp), next B6.out hbf⟩
      · have e1 : ((R.1.k : Int) == 1) = false := by simp; omega
        have ht : trueB R.1 = false := by simp [trueB, hk]
        have HTR := Lib.hid (fun W => trueW R.1 W)
        rw [ht] at HTR
        clear ht hk
        refine wp_region_later (by kernel_rfl) (by kernel_rfl) ?_
        repeat (go_big_quiet_step ((go_at_call 16; exact lat_calls (HTR.out _))))
        refine wpQuiet_nil ?_
        refine later_out (fun wf hbf => ?_)
        go_wp2_with fail
        go_ret
        exact ⟨ret_bool (by simp), next B6.out hbf⟩
    · go_wp2_with fail
      go_ret
      exact ⟨rfl, B3.out⟩

theorem opened {H : Type} (enc : TypeId × Value → H) (W : World) (args : Array Value) (ds : List (DataW H)) (p : List MemPlace) :
    Lift.Owes enc Try.prog 3 Try.f3.params.toList W args ds p := by
  intro hA hval hsz _
  rw [Try.params3] at hA hval hsz
  obtain ⟨v0, vs0, d0, ds0, p0, q0, hargs, rfl, rfl, h0, r0⟩ := trodAll_cons hA
  obtain ⟨v1, vs1, d1, ds1, p1, q1, rfl, rfl, rfl, h1, r1⟩ := trodAll_cons r0
  obtain ⟨rfl, rfl, rfl⟩ := trodAll_nil r1
  obtain rfl : args = #[v0, v1] := by cases args; simp_all
  obtain ⟨base0, hv0⟩ := hval 0 _ v0 rfl rfl
  obtain ⟨x, rfl, hin, hok⟩ := arg_Ex exT hv0 h0 (lim_arg hsz (j := 0) rfl rfl)
  obtain ⟨base1, hv1⟩ := hval 1 _ v1 rfl rfl
  obtain ⟨row, hr, hrok, hrl⟩ := arg_Vs vT (by kernel_rfl) hv1 h1 (lim_arg hsz (j := 1) rfl rfl)
  exact walk x v1 row W hin hok hr hrok (by omega)

theorem own : ownKnob Try.prog.godebug = none := by kernel_rfl
theorem laid : laidOutB Try.prog = true := by kernel_rfl

set_option maxRecDepth 100000 in
theorem lifted (os : Os) (started : os.Started) (H : Type) (enc : TypeId × Value → H) :
    ReturnsInHanded {} Try.checked os 3 .any (Rows.evalEvalsSpec.pre6 enc Try.prog Try.f3 Rows.evalEvalsRow.domain false)
      (Rows.evalEvalsSpec.post enc Try.prog Try.f3 false true false false) := by
  refine Lift.lifted (C := Try.checked) own started (by kernel_rfl) Try.func3
    (ChangeSpec.witness6 (enc := enc) (C := Try.checked) false ⟨#[], #[.agg #[.int .u8 0, .int .u8 0, .int .i64 0, .string ByteArray.empty, .string ByteArray.empty, .string ByteArray.empty, .int .i64 0, .slice none 0 0], .slice none 0 0], []⟩ 8 (by kernel_rfl) (by kernel_rfl) (by kernel_rfl) (by kernel_rfl))
    laid (by rw [Try.params3]; intro t ht; simp at ht; rcases ht with rfl | rfl <;> exact ⟨by kernel_rfl, of_decide_eq_true (by kernel_rfl)⟩) rfl 4 rfl Try.underlying4
    (fun ds hds => by match ds, hds with | [_, _], _ => rfl) (opened enc)

theorem said : Rows.EvalEvalsSaid :=
  OpenClaim.holds_of_wide 3 Try.f3 rfl rfl rfl rfl rfl rfl rfl ⟨rfl, rfl, rfl, rfl, rfl⟩ rfl rfl rfl rfl rfl (by kernel_rfl) Try.func3 (by kernel_rfl)
    (of_decide_eq_true (by kernel_rfl)) (by unfold Func.isWrapper; first | (rw [if_pos (by decide +kernel)]; kernel_rfl) | (rw [if_neg (by decide +kernel)]; exact ⟨rfl, rfl⟩))
    (fun os started H enc _ => lifted os started H enc)
#print axioms said
end Go.Proofs.Ytaeobillbocemaa.EvalEvals
