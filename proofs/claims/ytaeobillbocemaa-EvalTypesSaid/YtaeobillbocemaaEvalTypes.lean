/- EvalTypes: the law returns true at every input. -/
import Derived.Test.YtaeobillbocemaaLift
import Derived.Test.YtaeobillbocemaaEvalWorks
import Derived.Test.YtaeobillbocemaaEvalSize
import Derived.Test.YtaeobillbocemaaEvalTypeR
import Derived.Test.YtaeobillbocemaaTypes
namespace Go.Proofs.Ytaeobillbocemaa.EvalTypes
open Go.ChangeShapes Go.WideShapes Go.ChangeAt Go.RowKit Go.Proofs.Ytaeobillbocemaa.By
set_option linter.unusedVariables false
-- witness .agg #[.int .u8 0, .int .u8 0, .int .i64 0, .string ByteArray.empty, .string ByteArray.empty, .string ByteArray.empty, .int .i64 0, .slice none 0 0]
-- witness .slice none 0 0
-- witness .bool false
/- EvalTypes: whatever expression and columns, the kind that package eval tells is the reference's. No conditions. -/
open Go.Proofs.Ytaeobillbocemaa.Dt
set_option maxRecDepth 100000 in
set_option maxHeartbeats 8000000 in
theorem walk (x : Ex) (cv : Value) (cols : List Nat) (g : Bool) (w : World) (hin : x.In w) (hok : x.Ok) (hcv : U8sAt w cv cols) (hcs : ∀ k ∈ cols, k < 256) (hcl : cols.length ≤ 140737488351232) :
    Calls Try.prog 9 #[x.val, cv, .bool g] w fun e w' => e = .returned (.bool true) ∧ Below w.heap.size w w' := by
  obtain ⟨ax, cx, ekx⟩ := Ex.kv_of hin
  obtain ⟨R, hR⟩ : ∃ R, R = typeS cols g x := ⟨_, rfl⟩
  have hsz := fun W (hb : Below w.heap.size w W) => sizeL x 0 W (Ex.in_below (w := w) hb x hin) hok
  have hty := fun W (hb : Below w.heap.size w W) => typeW x cv cols g W hcs hcl (Ex.in_below (w := w) hb x hin) hok (hcv.below hb)
  have hre := fun W (hb : Below w.heap.size w W) => refType x cv cols g W hcs hcl (Ex.in_below (w := w) hb x hin) hok (hcv.below hb)
  rw [← hR] at hty hre
  obtain ⟨ac, cc, rfl⟩ := hcv.shape
  have HBA : Hid (Below w.heap.size w (w.alloc (.cells #[.int .u8 (x.op : Int), .int .u8 (x.v.k : Int), .int .i64 x.v.n, .string x.v.s, .string x.t, .string x.m, .int .i64 x.n, .slice ax x.kids.length cx] 26))) := Lib.hid ((Below.refl _ _).alloc (Nat.le_refl _) _)
  have hx8 := box_cells w (w.alloc (.cells #[.int .u8 (x.op : Int), .int .u8 (x.v.k : Int), .int .i64 x.v.n, .string x.v.s, .string x.t, .string x.m, .int .i64 x.n, .slice ax x.kids.length cx] 26)) x 26 (by simp only [exBox, ekx]; exact Below.refl _ _)
  simp only [Ex.val] at hsz hty hre ⊢
  rw [ekx] at hsz hty hre hx8 ⊢
  have HSZ := Lib.hid hsz
  have HTY := Lib.hid hty
  have HRE := Lib.hid hre
  clear hsz hty hre hR hin hok hcv hcs ekx
  go_enter Try.func9, Try.ntmps9
  go_wp2_with fail
  generalize hWA : w.alloc (.cells #[.int .u8 (x.op : Int), .int .u8 (x.v.k : Int), .int .i64 x.v.n, .string x.v.s, .string x.t, .string x.m, .int .i64 x.n, .slice ax x.kids.length cx] 26) = WA at *
  clear hWA
  refine (works _).mono ?_
  rintro e w1 ⟨rfl, hb1⟩
  have B1 := Lib.hid (next HBA.out hb1)
  obtain ⟨x0, x1, x2, x3, x4, x5, x6, x7⟩ := hx8
  have y0 := (hb1.cell (cell_lt x0)).trans x0
  have y1 := (hb1.cell (cell_lt x1)).trans x1
  have y2 := (hb1.cell (cell_lt x2)).trans x2
  have y3 := (hb1.cell (cell_lt x3)).trans x3
  have y4 := (hb1.cell (cell_lt x4)).trans x4
  have y5 := (hb1.cell (cell_lt x5)).trans x5
  have y6 := (hb1.cell (cell_lt x6)).trans x6
  have y7 := (hb1.cell (cell_lt x7)).trans x7
  clear x0 x1 x2 x3 x4 x5 x6 x7
  clear hb1
  go_wp2_with fail
  refine (HSZ.out _ B1.out).mono ?_
  rintro e w2 ⟨⟨n, rfl⟩, hb2⟩
  have B2 := Lib.hid (next B1.out hb2)
  have x0 := (hb2.cell (cell_lt y0)).trans y0
  have x1 := (hb2.cell (cell_lt y1)).trans y1
  have x2 := (hb2.cell (cell_lt y2)).trans y2
  have x3 := (hb2.cell (cell_lt y3)).trans y3
  have x4 := (hb2.cell (cell_lt y4)).trans y4
  have x5 := (hb2.cell (cell_lt y5)).trans y5
  have x6 := (hb2.cell (cell_lt y6)).trans y6
  have x7 := (hb2.cell (cell_lt y7)).trans y7
  clear y0 y1 y2 y3 y4 y5 y6 y7
  clear hb2
  by_cases hn : 300 < n
  · have en : decide (300 < n) = true := decide_eq_true hn
    clear hn
    go_wp2_with fail
    go_ret
    exact ⟨rfl, B2.out⟩
  · have en : decide (300 < n) = false := decide_eq_false hn
    clear hn
    by_cases hc : 100 < cols.length
    · have ec : decide ((100 : Int) < (cols.length : Int)) = true := decide_eq_true (by omega)
      go_wp2_with fail
      go_ret
      exact ⟨rfl, B2.out⟩
    · have ec : decide ((100 : Int) < (cols.length : Int)) = false := decide_eq_false (by omega)
      go_wp2_with fail
      refine (HTY.out _ B2.out).mono ?_
      rintro e w3 ⟨rfl, hb3⟩
      have B3 := Lib.hid (next B2.out hb3)
      have y0 := (hb3.cell (cell_lt x0)).trans x0
      have y1 := (hb3.cell (cell_lt x1)).trans x1
      have y2 := (hb3.cell (cell_lt x2)).trans x2
      have y3 := (hb3.cell (cell_lt x3)).trans x3
      have y4 := (hb3.cell (cell_lt x4)).trans x4
      have y5 := (hb3.cell (cell_lt x5)).trans x5
      have y6 := (hb3.cell (cell_lt x6)).trans x6
      have y7 := (hb3.cell (cell_lt x7)).trans x7
      clear x0 x1 x2 x3 x4 x5 x6 x7
      clear hb3
      go_wp2_with fail
      refine (HRE.out _ B3.out).mono ?_
      rintro e w4 ⟨rfl, hb4⟩
      have B4 := Lib.hid (next B3.out hb4)
      clear hb4
      go_wp2_with fail
      go_ret
      exact ⟨ret_bool (by simp), B4.out⟩

theorem opened {H : Type} (enc : TypeId × Value → H) (W : World) (args : Array Value) (ds : List (DataW H)) (p : List MemPlace) :
    Lift.Owes enc Try.prog 9 Try.f9.params.toList W args ds p := by
  intro hA hval hsz _
  rw [Try.params9] at hA hval hsz
  obtain ⟨v0, vs0, d0, ds0, p0, q0, hargs, rfl, rfl, h0, r0⟩ := trodAll_cons hA
  obtain ⟨v1, vs1, d1, ds1, p1, q1, rfl, rfl, rfl, h1, r1⟩ := trodAll_cons r0
  obtain ⟨v2, vs2, d2, ds2, p2, q2, rfl, rfl, rfl, h2, r2⟩ := trodAll_cons r1
  obtain ⟨rfl, rfl, rfl⟩ := trodAll_nil r2
  obtain rfl : args = #[v0, v1, v2] := by cases args; simp_all
  obtain ⟨base0, hv0⟩ := hval 0 _ v0 rfl rfl
  obtain ⟨x, rfl, hin, hok⟩ := arg_Ex exT hv0 h0 (lim_arg hsz (j := 0) rfl rfl)
  obtain ⟨base1, hv1⟩ := hval 1 _ v1 rfl rfl
  obtain ⟨cols, hcv, hcs, hcl⟩ := arg_U8s (e := 5) (by kernel_rfl) (by kernel_rfl) (by kernel_rfl) (by kernel_rfl) hv1 h1 (lim_arg hsz (j := 1) rfl rfl)
  obtain ⟨base2, hv2⟩ := hval 2 _ v2 rfl rfl
  obtain ⟨g, rfl, rfl, rfl⟩ := open_bool Try.underlying4 hv2 h2
  exact walk x v1 cols g W hin hok hcv hcs (by omega)

theorem own : ownKnob Try.prog.godebug = none := by kernel_rfl
theorem laid : laidOutB Try.prog = true := by kernel_rfl

set_option maxRecDepth 100000 in
theorem lifted (os : Os) (started : os.Started) (H : Type) (enc : TypeId × Value → H) :
    ReturnsInHanded {} Try.checked os 9 .any (Rows.evalTypesSpec.pre6 enc Try.prog Try.f9 Rows.evalTypesRow.domain false)
      (Rows.evalTypesSpec.post enc Try.prog Try.f9 false true false false) := by
  refine Lift.lifted (C := Try.checked) own started (by kernel_rfl) Try.func9
    (ChangeSpec.witness6 (enc := enc) (C := Try.checked) false ⟨#[], #[.agg #[.int .u8 0, .int .u8 0, .int .i64 0, .string ByteArray.empty, .string ByteArray.empty, .string ByteArray.empty, .int .i64 0, .slice none 0 0], .slice none 0 0, .bool false], []⟩ 8 (by kernel_rfl) (by kernel_rfl) (by kernel_rfl) (by kernel_rfl))
    laid (by rw [Try.params9]; intro t ht; simp at ht; rcases ht with rfl | rfl | rfl <;> exact ⟨by kernel_rfl, of_decide_eq_true (by kernel_rfl)⟩) rfl 4 rfl Try.underlying4
    (fun ds hds => by match ds, hds with | [_, _, _], _ => rfl) (opened enc)

theorem said : Rows.EvalTypesSaid :=
  OpenClaim.holds_of_wide 9 Try.f9 rfl rfl rfl rfl rfl rfl rfl ⟨rfl, rfl, rfl, rfl, rfl⟩ rfl rfl rfl rfl rfl (by kernel_rfl) Try.func9 (by kernel_rfl)
    (of_decide_eq_true (by kernel_rfl)) (by unfold Func.isWrapper; first | (rw [if_pos (by decide +kernel)]; kernel_rfl) | (rw [if_neg (by decide +kernel)]; exact ⟨rfl, rfl⟩))
    (fun os started H enc _ => lifted os started H enc)
#print axioms said
end Go.Proofs.Ytaeobillbocemaa.EvalTypes
