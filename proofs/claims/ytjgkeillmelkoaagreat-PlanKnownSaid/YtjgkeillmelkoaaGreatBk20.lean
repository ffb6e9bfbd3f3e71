import Derived.Test.YtjgkeillmelkoaaGreatBk19
namespace Go.Proofs.YtjgkeillmelkoaaGreat.Dt
open Go.RowKit Go.Proofs.YtjgkeillmelkoaaGreat.By

/-- What lies there while the catalog is gone through: all as it was, the table's box. -/
structure MY (w : World) (g : Nat) (tv : Array Value) (W : World) : Prop where
  hb : Below w.heap.size w W
  row : Row g 59 tv W
theorem MY.later {w W W' : World} {g : Nat} {tv : Array Value} (h : MY w g tv W) (hb : Below W.heap.size W W') : MY w g tv W' := ⟨next h.hb hb, h.row.later hb⟩
set_option maxRecDepth 100000 in
set_option maxHeartbeats 16000000 in
theorem mayW (v : Value) (w : World) (h : CatR w v [smallT]) : Calls Tryz.prog 35 #[v] w fun e w' => e = .returned (.bool true) ∧ Below w.heap.size w w' := by
  obtain ⟨va, vc, rfl, _⟩ := h.shape
  have H := Lib.hid h
  obtain ⟨b, o, cv, kv, iv, rfl, hcols, hkey, hix, t0, t1, t2, t3⟩ := tb_at (k := 0) h rfl
  simp only [Nat.zero_mul, Nat.add_zero] at t0 t1 t2 t3
  obtain ⟨ca, cc, rfl, _⟩ := hcols.shape
  obtain ⟨ka, kc, rfl, hkc⟩ := hkey.shape
  obtain ⟨ia, ic, rfl, _⟩ := hix.shape
  obtain ⟨cb, co, rfl, _, _, _⟩ := col_at (k := 0) hcols rfl
  obtain ⟨kb, ko, rfl, _⟩ := int_at (k := 0) hkey rfl
  obtain ⟨ib, io, xv, rfl, hxc, x0, x1, x2⟩ := ix_at (k := 0) hix rfl
  simp only [Nat.zero_mul, Nat.add_zero] at x0 x1 x2
  obtain ⟨xa, xc, rfl, _⟩ := hxc.shape
  have HCOLS := Lib.hid hcols
  have HKEY := Lib.hid hkey
  have HXC := Lib.hid hxc
  have T0 : Hid (w.cell? ⟨b, o, none⟩ = some (.string ⟨#[116]⟩)) := Lib.hid t0
  have T1 : Hid (w.cell? ⟨b, o + 1, none⟩ = some (.slice (some ⟨cb, co, none⟩) 3 cc)) := Lib.hid t1
  have T2 : Hid (w.cell? ⟨b, o + 2, none⟩ = some (.slice (some ⟨kb, ko, none⟩) 2 kc)) := Lib.hid t2
  have T3 : Hid (w.cell? ⟨b, o + 3, none⟩ = some (.slice (some ⟨ib, io, none⟩) 1 ic)) := Lib.hid t3
  have X0 : Hid (w.cell? ⟨ib, io, none⟩ = some (.string ⟨#[105]⟩)) := Lib.hid x0
  have X1 : Hid (w.cell? ⟨ib, io + 1, none⟩ = some (.slice xa 1 xc)) := Lib.hid x1
  have X2 : Hid (w.cell? ⟨ib, io + 2, none⟩ = some (.bool false)) := Lib.hid x2
  have HNT : Hid (∀ W : World, Calls Tryz.prog 67 #[.string ⟨#[116]⟩] W fun e w' => e = .returned (.bool true) ∧ Below W.heap.size W w') := Lib.hid (fun W => by have h := nameW16 ⟨#[116]⟩ (by decide) W; rw [show isNm ⟨#[116]⟩ = true by decide +kernel] at h; exact h)
  have HNA : Hid (∀ W : World, Calls Tryz.prog 67 #[.string ⟨#[97]⟩] W fun e w' => e = .returned (.bool true) ∧ Below W.heap.size W w') := Lib.hid (fun W => by have h := nameW16 ⟨#[97]⟩ (by decide) W; rw [show isNm ⟨#[97]⟩ = true by decide +kernel] at h; exact h)
  have HNB : Hid (∀ W : World, Calls Tryz.prog 67 #[.string ⟨#[98]⟩] W fun e w' => e = .returned (.bool true) ∧ Below W.heap.size W w') := Lib.hid (fun W => by have h := nameW16 ⟨#[98]⟩ (by decide) W; rw [show isNm ⟨#[98]⟩ = true by decide +kernel] at h; exact h)
  have HNC : Hid (∀ W : World, Calls Tryz.prog 67 #[.string ⟨#[99]⟩] W fun e w' => e = .returned (.bool true) ∧ Below W.heap.size W w') := Lib.hid (fun W => by have h := nameW16 ⟨#[99]⟩ (by decide) W; rw [show isNm ⟨#[99]⟩ = true by decide +kernel] at h; exact h)
  have HNI : Hid (∀ W : World, Calls Tryz.prog 67 #[.string ⟨#[105]⟩] W fun e w' => e = .returned (.bool true) ∧ Below W.heap.size W w') := Lib.hid (fun W => by have h := nameW16 ⟨#[105]⟩ (by decide) W; rw [show isNm ⟨#[105]⟩ = true by decide +kernel] at h; exact h)
  have HPK : Hid (∀ W : World, Below w.heap.size w W → Calls Tryz.prog 68 #[.agg #[.string ⟨#[116]⟩, .slice (some ⟨cb, co, none⟩) 3 cc, .slice (some ⟨kb, ko, none⟩) 2 kc, .slice (some ⟨ib, io, none⟩) 1 ic], .slice (some ⟨kb, ko, none⟩) 2 kc] W fun e w' => e = .returned (.bool true) ∧ Below W.heap.size W w') := Lib.hid fun W hW =>
    placesT [0, 1] 3 _ _ _ _ _ _ _ _ _ _ _ W (by decide) (by decide) (fun i x hx => by
      match i, hx with
      | 0, hx => cases hx; exact ⟨by decide, by decide, rfl⟩
      | 1, hx => cases hx; exact ⟨by decide, by decide, rfl⟩
      | n + 2, hx => cases hx) (intsR_below HKEY.out hW)
  have HPX : Hid (∀ W : World, Below w.heap.size w W → Calls Tryz.prog 68 #[.agg #[.string ⟨#[116]⟩, .slice (some ⟨cb, co, none⟩) 3 cc, .slice (some ⟨kb, ko, none⟩) 2 kc, .slice (some ⟨ib, io, none⟩) 1 ic], .slice xa 1 xc] W fun e w' => e = .returned (.bool true) ∧ Below W.heap.size W w') := Lib.hid fun W hW =>
    placesT [2] 3 _ _ _ _ _ _ _ _ _ _ _ W (by decide) (by decide) (fun i x hx => by
      match i, hx with
      | 0, hx => cases hx; exact ⟨by decide, by decide, rfl⟩
      | n + 1, hx => cases hx) (intsR_below HXC.out hW)
  have HCOL : Hid (∀ (s : ByteArray) (W : World), Below w.heap.size w W → Calls Tryz.prog 40 #[.agg #[.string ⟨#[116]⟩, .slice (some ⟨cb, co, none⟩) 3 cc, .slice (some ⟨kb, ko, none⟩) 2 kc, .slice (some ⟨ib, io, none⟩) 1 ic], .string s] W fun e w' => e = .returned (.int .i64 (idxL (fun x : PCol => decide (x.name = s)) smallT.cols 0)) ∧ Below W.heap.size W w') := Lib.hid fun s W hW =>
    columnW smallT.cols _ _ _ _ _ _ _ _ _ s W (by decide) (colsR_below HCOLS.out hW)
  have HHAS : Hid (∀ (n : Int) (W : World), Below w.heap.size w W → Calls Tryz.prog 69 #[.slice (some ⟨kb, ko, none⟩) 2 kc, .int .i64 n] W fun e w' => e = .returned (.bool (smallT.key.any fun x => x == n)) ∧ Below W.heap.size W w') := Lib.hid fun n W hW =>
    (hasW smallT.key _ _ n W (by decide) (intsR_below HKEY.out hW)).mono fun e w' ⟨h1, h2⟩ => ⟨h1, h2 ▸ Below.refl _ _⟩
  have HIDX : Hid (∀ W : World, Below w.heap.size w W → Calls Tryz.prog 70 #[.slice (some ⟨b, o, none⟩) 1 vc, .string ⟨#[105]⟩] W fun e w' => e = .returned (.tuple #[.int .i64 0, .int .i64 0, .bool true]) ∧ W = w') := Lib.hid fun W hW =>
    indexW [smallT] (some ⟨b, o, none⟩) vc ⟨#[105]⟩ W (by decide) (fun t ht => by simp at ht; subst ht; decide) (catR_below H.out hW)
  clear h hcols hkey hix hxc t0 t1 t2 t3 x0 x1 x2
  go_enter Tryz.func35, Tryz.ntmps35
  go_wp2_with fail
  go_loopg [3] 1 (fun gk iv wr => ∃ i : Nat, iv = .int .i64 (i : Int) ∧ gk = 1 - i ∧ i ≤ 1 ∧ Hid (Below w.heap.size w wr))
  case atStart => exact ⟨0, rfl, rfl, by decide, Lib.hid (Below.refl _ _)⟩
  case round =>
    obtain ⟨i, rfl, rfl, hi, HB⟩ := hrel
    match i, hi with
    | 0, _ =>
      have c0 := (HB.out.cell (cell_lt T0.out)).trans T0.out
      have c1 := (HB.out.cell (cell_lt T1.out)).trans T1.out
      have c2 := (HB.out.cell (cell_lt T2.out)).trans T2.out
      have c3 := (HB.out.cell (cell_lt T3.out)).trans T3.out
      go_upto_region 7 with fail
      clear c0 c1 c2 c3
      have hb2 := (Below.refl _ wr).alloc (Nat.le_refl _) (.cells #[.string ⟨#[116]⟩, .slice (some ⟨cb, co, none⟩) 3 cc, .slice (some ⟨kb, ko, none⟩) 2 kc, .slice (some ⟨ib, io, none⟩) 1 ic] 59)
      have HM : Hid (MY w wr.heap.size #[.string ⟨#[116]⟩, .slice (some ⟨cb, co, none⟩) 3 cc, .slice (some ⟨kb, ko, none⟩) 2 kc, .slice (some ⟨ib, io, none⟩) 1 ic] (wr.alloc (.cells #[.string ⟨#[116]⟩, .slice (some ⟨cb, co, none⟩) 3 cc, .slice (some ⟨kb, ko, none⟩) 2 kc, .slice (some ⟨ib, io, none⟩) 1 ic] 59))) := Lib.hid ⟨next HB.out hb2, row_alloc _ _ _⟩
      clear hb2
      generalize wr.alloc (.cells #[.string ⟨#[116]⟩, .slice (some ⟨cb, co, none⟩) 3 cc, .slice (some ⟨kb, ko, none⟩) 2 kc, .slice (some ⟨ib, io, none⟩) 1 ic] 59) = w2 at *
      generalize wr.heap.size = g at *
      have l0 := lat_cell (HM.out.row.cell (i := 0) (v := .string ⟨#[116]⟩) rfl)
      have l1 := lat_cell (HM.out.row.cell (i := 1) (v := .slice (some ⟨cb, co, none⟩) 3 cc) rfl)
      have l2 := lat_cell (HM.out.row.cell (i := 2) (v := .slice (some ⟨kb, ko, none⟩) 2 kc) rfl)
      have l3 := lat_cell (HM.out.row.cell (i := 3) (v := .slice (some ⟨ib, io, none⟩) 1 ic) rfl)
      refine wp_region_later (by kernel_rfl) (by kernel_rfl) ?_
      repeat (go_big_quiet_step (first | with_reducible exact lat_calls (HNT.out _) | exact lat_calls (HPK.out _ (next HM.out.hb (lat_below _ _)))))
      refine wpQuiet_nil ?_
      refine later_out (fun w3 hb3 => ?_)
      replace HM := Lib.hid (HM.out.later hb3)
      clear l0 l1 l2 l3 hb3
      go_wp2_with fail
      go_loopg [5] 3 (fun gj jv wr => ∃ j : Nat, jv = .int .i64 (j : Int) ∧ gj = 3 - j ∧ j ≤ 3 ∧ Hid (MY w g #[.string ⟨#[116]⟩, .slice (some ⟨cb, co, none⟩) 3 cc, .slice (some ⟨kb, ko, none⟩) 2 kc, .slice (some ⟨ib, io, none⟩) 1 ic] wr))
      case atStart => exact ⟨0, rfl, rfl, by decide, HM⟩
      case round =>
        obtain ⟨j, rfl, rfl, hj, HM⟩ := hrel
        have t1 := HM.out.row.cell (i := 1) (v := .slice (some ⟨cb, co, none⟩) 3 cc) rfl
        match j, hj with
        | 0, _ =>
          obtain ⟨b2, o2, e2, c0, c1, c2⟩ := col_at (k := 0) (colsR_below HCOLS.out HM.out.hb) rfl
          cases e2
          have c0 : wr.cell? ⟨cb, co, none⟩ = some (.string ⟨#[97]⟩) := c0
          have c1 : wr.cell? ⟨cb, co + 1, none⟩ = some (.int .u8 1) := c1
          have c2 : wr.cell? ⟨cb, co + 2, none⟩ = some (.bool true) := c2
          have HCJ : Hid (∀ W : World, Below w.heap.size w W → Calls Tryz.prog 40 #[.agg #[.string ⟨#[116]⟩, .slice (some ⟨cb, co, none⟩) 3 cc, .slice (some ⟨kb, ko, none⟩) 2 kc, .slice (some ⟨ib, io, none⟩) 1 ic], .string ⟨#[97]⟩] W fun e w' => e = .returned (.int .i64 0) ∧ Below W.heap.size W w') := Lib.hid fun W hW => by
            have h := HCOL.out ⟨#[97]⟩ W hW
            rw [show idxL (fun x : PCol => decide (x.name = ⟨#[97]⟩)) smallT.cols 0 = 0 by decide +kernel] at h
            exact h
          have HHJ : Hid (∀ W : World, Below w.heap.size w W → Calls Tryz.prog 69 #[.slice (some ⟨kb, ko, none⟩) 2 kc, .int .i64 0] W fun e w' => e = .returned (.bool true) ∧ Below W.heap.size W w') := Lib.hid fun W hW => by
            have h := HHAS.out 0 W hW
            rw [show (smallT.key.any fun x => x == 0) = true by decide] at h
            exact h
          go_upto_region 13 with fail
          clear c0 c1 c2 t1
          have hb5 := (Below.refl _ wr).alloc (Nat.le_refl _) (.cells #[.string ⟨#[97]⟩, .int .u8 1, .bool true] 76)
          have HM5 := Lib.hid (HM.out.later hb5)
          have HX5 := Lib.hid (row_alloc wr 76 #[.string ⟨#[97]⟩, .int .u8 1, .bool true])
          clear hb5 HM
          generalize wr.alloc (.cells #[.string ⟨#[97]⟩, .int .u8 1, .bool true] 76) = w5 at *
          generalize wr.heap.size = gx at *
          have t0 := HM5.out.row.cell (i := 0) (v := .string ⟨#[116]⟩) rfl
          have t1 := HM5.out.row.cell (i := 1) (v := .slice (some ⟨cb, co, none⟩) 3 cc) rfl
          have t2 := HM5.out.row.cell (i := 2) (v := .slice (some ⟨kb, ko, none⟩) 2 kc) rfl
          have t3 := HM5.out.row.cell (i := 3) (v := .slice (some ⟨ib, io, none⟩) 1 ic) rfl
          have x0 := HX5.out.cell (i := 0) (v := .string ⟨#[97]⟩) rfl
          have x1 := HX5.out.cell (i := 1) (v := .int .u8 1) rfl
          have x2 := HX5.out.cell (i := 2) (v := .bool true) rfl
          have HC := Lib.hid (HNA.out w5)
          go_wp2_with fail
          refine HC.out.mono ?_
          rintro e6 w6 ⟨rfl, hb6⟩
          have HM6 := Lib.hid (HM5.out.later hb6)
          have HX6 := Lib.hid (HX5.out.later hb6)
          clear t0 t1 t2 t3 x0 x1 x2 hb6 HC
          have t0 := HM6.out.row.cell (i := 0) (v := .string ⟨#[116]⟩) rfl
          have t1 := HM6.out.row.cell (i := 1) (v := .slice (some ⟨cb, co, none⟩) 3 cc) rfl
          have t2 := HM6.out.row.cell (i := 2) (v := .slice (some ⟨kb, ko, none⟩) 2 kc) rfl
          have t3 := HM6.out.row.cell (i := 3) (v := .slice (some ⟨ib, io, none⟩) 1 ic) rfl
          have x0 := HX6.out.cell (i := 0) (v := .string ⟨#[97]⟩) rfl
          have x1 := HX6.out.cell (i := 1) (v := .int .u8 1) rfl
          have x2 := HX6.out.cell (i := 2) (v := .bool true) rfl
          have HC := Lib.hid (HCJ.out w6 HM6.out.hb)
          go_wp2_with fail
          refine HC.out.mono ?_
          rintro e7 w7 ⟨rfl, hb7⟩
          have HM7 := Lib.hid (HM6.out.later hb7)
          have HX7 := Lib.hid (HX6.out.later hb7)
          clear t0 t1 t2 t3 x0 x1 x2 hb7 HC
          have t0 := HM7.out.row.cell (i := 0) (v := .string ⟨#[116]⟩) rfl
          have t1 := HM7.out.row.cell (i := 1) (v := .slice (some ⟨cb, co, none⟩) 3 cc) rfl
          have t2 := HM7.out.row.cell (i := 2) (v := .slice (some ⟨kb, ko, none⟩) 2 kc) rfl
          have t3 := HM7.out.row.cell (i := 3) (v := .slice (some ⟨ib, io, none⟩) 1 ic) rfl
          have x0 := HX7.out.cell (i := 0) (v := .string ⟨#[97]⟩) rfl
          have x1 := HX7.out.cell (i := 1) (v := .int .u8 1) rfl
          have x2 := HX7.out.cell (i := 2) (v := .bool true) rfl
          have HC := Lib.hid (HHJ.out w7 HM7.out.hb)
          go_wp2_with fail
          refine HC.out.mono ?_
          rintro e8 w8 ⟨rfl, hb8⟩
          have HM8 := Lib.hid (HM7.out.later hb8)
          have HX8 := Lib.hid (HX7.out.later hb8)
          clear t0 t1 t2 t3 x0 x1 x2 hb8 HC HCJ HHJ
          have x2 := HX8.out.cell (i := 2) (v := .bool true) rfl
          go_wp2_with fail
          go_roundg 2
          case measure => decide
          case rel => exact ⟨1, rfl, rfl, by decide, HM8⟩
        | 1, _ =>
          obtain ⟨b2, o2, e2, c0, c1, c2⟩ := col_at (k := 1) (colsR_below HCOLS.out HM.out.hb) rfl
          cases e2
          have c0 : wr.cell? ⟨cb, co + 3, none⟩ = some (.string ⟨#[98]⟩) := c0
          have c1 : wr.cell? ⟨cb, co + 4, none⟩ = some (.int .u8 1) := c1
          have c2 : wr.cell? ⟨cb, co + 5, none⟩ = some (.bool true) := c2
          have HCJ : Hid (∀ W : World, Below w.heap.size w W → Calls Tryz.prog 40 #[.agg #[.string ⟨#[116]⟩, .slice (some ⟨cb, co, none⟩) 3 cc, .slice (some ⟨kb, ko, none⟩) 2 kc, .slice (some ⟨ib, io, none⟩) 1 ic], .string ⟨#[98]⟩] W fun e w' => e = .returned (.int .i64 1) ∧ Below W.heap.size W w') := Lib.hid fun W hW => by
            have h := HCOL.out ⟨#[98]⟩ W hW
            rw [show idxL (fun x : PCol => decide (x.name = ⟨#[98]⟩)) smallT.cols 0 = 1 by decide +kernel] at h
            exact h
          have HHJ : Hid (∀ W : World, Below w.heap.size w W → Calls Tryz.prog 69 #[.slice (some ⟨kb, ko, none⟩) 2 kc, .int .i64 1] W fun e w' => e = .returned (.bool true) ∧ Below W.heap.size W w') := Lib.hid fun W hW => by
            have h := HHAS.out 1 W hW
            rw [show (smallT.key.any fun x => x == 1) = true by decide] at h
            exact h
          go_upto_region 13 with fail
          clear c0 c1 c2 t1
          have hb5 := (Below.refl _ wr).alloc (Nat.le_refl _) (.cells #[.string ⟨#[98]⟩, .int .u8 1, .bool true] 76)
          have HM5 := Lib.hid (HM.out.later hb5)
          have HX5 := Lib.hid (row_alloc wr 76 #[.string ⟨#[98]⟩, .int .u8 1, .bool true])
          clear hb5 HM
          generalize wr.alloc (.cells #[.string ⟨#[98]⟩, .int .u8 1, .bool true] 76) = w5 at *
          generalize wr.heap.size = gx at *
          have t0 := HM5.out.row.cell (i := 0) (v := .string ⟨#[116]⟩) rfl
          have t1 := HM5.out.row.cell (i := 1) (v := .slice (some ⟨cb, co, none⟩) 3 cc) rfl
          have t2 := HM5.out.row.cell (i := 2) (v := .slice (some ⟨kb, ko, none⟩) 2 kc) rfl
          have t3 := HM5.out.row.cell (i := 3) (v := .slice (some ⟨ib, io, none⟩) 1 ic) rfl
          have x0 := HX5.out.cell (i := 0) (v := .string ⟨#[98]⟩) rfl
          have x1 := HX5.out.cell (i := 1) (v := .int .u8 1) rfl
          have x2 := HX5.out.cell (i := 2) (v := .bool true) rfl
          have HC := Lib.hid (HNB.out w5)
          go_wp2_with fail
          refine HC.out.mono ?_
          rintro e6 w6 ⟨rfl, hb6⟩
          have HM6 := Lib.hid (HM5.out.later hb6)
          have HX6 := Lib.hid (HX5.out.later hb6)
          clear t0 t1 t2 t3 x0 x1 x2 hb6 HC
          have t0 := HM6.out.row.cell (i := 0) (v := .string ⟨#[116]⟩) rfl
          have t1 := HM6.out.row.cell (i := 1) (v := .slice (some ⟨cb, co, none⟩) 3 cc) rfl
          have t2 := HM6.out.row.cell (i := 2) (v := .slice (some ⟨kb, ko, none⟩) 2 kc) rfl
          have t3 := HM6.out.row.cell (i := 3) (v := .slice (some ⟨ib, io, none⟩) 1 ic) rfl
          have x0 := HX6.out.cell (i := 0) (v := .string ⟨#[98]⟩) rfl
          have x1 := HX6.out.cell (i := 1) (v := .int .u8 1) rfl
          have x2 := HX6.out.cell (i := 2) (v := .bool true) rfl
          have HC := Lib.hid (HCJ.out w6 HM6.out.hb)
          go_wp2_with fail
          refine HC.out.mono ?_
          rintro e7 w7 ⟨rfl, hb7⟩
          have HM7 := Lib.hid (HM6.out.later hb7)
          have HX7 := Lib.hid (HX6.out.later hb7)
          clear t0 t1 t2 t3 x0 x1 x2 hb7 HC
          have t0 := HM7.out.row.cell (i := 0) (v := .string ⟨#[116]⟩) rfl
          have t1 := HM7.out.row.cell (i := 1) (v := .slice (some ⟨cb, co, none⟩) 3 cc) rfl
          have t2 := HM7.out.row.cell (i := 2) (v := .slice (some ⟨kb, ko, none⟩) 2 kc) rfl
          have t3 := HM7.out.row.cell (i := 3) (v := .slice (some ⟨ib, io, none⟩) 1 ic) rfl
          have x0 := HX7.out.cell (i := 0) (v := .string ⟨#[98]⟩) rfl
          have x1 := HX7.out.cell (i := 1) (v := .int .u8 1) rfl
          have x2 := HX7.out.cell (i := 2) (v := .bool true) rfl
          have HC := Lib.hid (HHJ.out w7 HM7.out.hb)
          go_wp2_with fail
          refine HC.out.mono ?_
          rintro e8 w8 ⟨rfl, hb8⟩
          have HM8 := Lib.hid (HM7.out.later hb8)
          have HX8 := Lib.hid (HX7.out.later hb8)
          clear t0 t1 t2 t3 x0 x1 x2 hb8 HC HCJ HHJ
          have x2 := HX8.out.cell (i := 2) (v := .bool true) rfl
          go_wp2_with fail
          go_roundg 1
          case measure => decide
          case rel => exact ⟨2, rfl, rfl, by decide, HM8⟩
        | 2, _ =>
          obtain ⟨b2, o2, e2, c0, c1, c2⟩ := col_at (k := 2) (colsR_below HCOLS.out HM.out.hb) rfl
          cases e2
          have c0 : wr.cell? ⟨cb, co + 6, none⟩ = some (.string ⟨#[99]⟩) := c0
          have c1 : wr.cell? ⟨cb, co + 7, none⟩ = some (.int .u8 1) := c1
          have c2 : wr.cell? ⟨cb, co + 8, none⟩ = some (.bool false) := c2
          have HCJ : Hid (∀ W : World, Below w.heap.size w W → Calls Tryz.prog 40 #[.agg #[.string ⟨#[116]⟩, .slice (some ⟨cb, co, none⟩) 3 cc, .slice (some ⟨kb, ko, none⟩) 2 kc, .slice (some ⟨ib, io, none⟩) 1 ic], .string ⟨#[99]⟩] W fun e w' => e = .returned (.int .i64 2) ∧ Below W.heap.size W w') := Lib.hid fun W hW => by
            have h := HCOL.out ⟨#[99]⟩ W hW
            rw [show idxL (fun x : PCol => decide (x.name = ⟨#[99]⟩)) smallT.cols 0 = 2 by decide +kernel] at h
            exact h
          have HHJ : Hid (∀ W : World, Below w.heap.size w W → Calls Tryz.prog 69 #[.slice (some ⟨kb, ko, none⟩) 2 kc, .int .i64 2] W fun e w' => e = .returned (.bool false) ∧ Below W.heap.size W w') := Lib.hid fun W hW => by
            have h := HHAS.out 2 W hW
            rw [show (smallT.key.any fun x => x == 2) = false by decide] at h
            exact h
          go_upto_region 13 with fail
          clear c0 c1 c2 t1
          have hb5 := (Below.refl _ wr).alloc (Nat.le_refl _) (.cells #[.string ⟨#[99]⟩, .int .u8 1, .bool false] 76)
          have HM5 := Lib.hid (HM.out.later hb5)
          have HX5 := Lib.hid (row_alloc wr 76 #[.string ⟨#[99]⟩, .int .u8 1, .bool false])
          clear hb5 HM
          generalize wr.alloc (.cells #[.string ⟨#[99]⟩, .int .u8 1, .bool false] 76) = w5 at *
          generalize wr.heap.size = gx at *
          have t0 := HM5.out.row.cell (i := 0) (v := .string ⟨#[116]⟩) rfl
          have t1 := HM5.out.row.cell (i := 1) (v := .slice (some ⟨cb, co, none⟩) 3 cc) rfl
          have t2 := HM5.out.row.cell (i := 2) (v := .slice (some ⟨kb, ko, none⟩) 2 kc) rfl
          have t3 := HM5.out.row.cell (i := 3) (v := .slice (some ⟨ib, io, none⟩) 1 ic) rfl
          have x0 := HX5.out.cell (i := 0) (v := .string ⟨#[99]⟩) rfl
          have x1 := HX5.out.cell (i := 1) (v := .int .u8 1) rfl
          have x2 := HX5.out.cell (i := 2) (v := .bool false) rfl
          have HC := Lib.hid (HNC.out w5)
          go_wp2_with fail
          refine HC.out.mono ?_
          rintro e6 w6 ⟨rfl, hb6⟩
          have HM6 := Lib.hid (HM5.out.later hb6)
          have HX6 := Lib.hid (HX5.out.later hb6)
          clear t0 t1 t2 t3 x0 x1 x2 hb6 HC
          have t0 := HM6.out.row.cell (i := 0) (v := .string ⟨#[116]⟩) rfl
          have t1 := HM6.out.row.cell (i := 1) (v := .slice (some ⟨cb, co, none⟩) 3 cc) rfl
          have t2 := HM6.out.row.cell (i := 2) (v := .slice (some ⟨kb, ko, none⟩) 2 kc) rfl
          have t3 := HM6.out.row.cell (i := 3) (v := .slice (some ⟨ib, io, none⟩) 1 ic) rfl
          have x0 := HX6.out.cell (i := 0) (v := .string ⟨#[99]⟩) rfl
          have x1 := HX6.out.cell (i := 1) (v := .int .u8 1) rfl
          have x2 := HX6.out.cell (i := 2) (v := .bool false) rfl
          have HC := Lib.hid (HCJ.out w6 HM6.out.hb)
          go_wp2_with fail
          refine HC.out.mono ?_
          rintro e7 w7 ⟨rfl, hb7⟩
          have HM7 := Lib.hid (HM6.out.later hb7)
          have HX7 := Lib.hid (HX6.out.later hb7)
          clear t0 t1 t2 t3 x0 x1 x2 hb7 HC
          have t0 := HM7.out.row.cell (i := 0) (v := .string ⟨#[116]⟩) rfl
          have t1 := HM7.out.row.cell (i := 1) (v := .slice (some ⟨cb, co, none⟩) 3 cc) rfl
          have t2 := HM7.out.row.cell (i := 2) (v := .slice (some ⟨kb, ko, none⟩) 2 kc) rfl
          have t3 := HM7.out.row.cell (i := 3) (v := .slice (some ⟨ib, io, none⟩) 1 ic) rfl
          have x0 := HX7.out.cell (i := 0) (v := .string ⟨#[99]⟩) rfl
          have x1 := HX7.out.cell (i := 1) (v := .int .u8 1) rfl
          have x2 := HX7.out.cell (i := 2) (v := .bool false) rfl
          have HC := Lib.hid (HHJ.out w7 HM7.out.hb)
          go_wp2_with fail
          refine HC.out.mono ?_
          rintro e8 w8 ⟨rfl, hb8⟩
          have HM8 := Lib.hid (HM7.out.later hb8)
          have HX8 := Lib.hid (HX7.out.later hb8)
          clear t0 t1 t2 t3 x0 x1 x2 hb8 HC HCJ HHJ
          have x2 := HX8.out.cell (i := 2) (v := .bool false) rfl
          go_wp2_with fail
          go_roundg 0
          case measure => decide
          case rel => exact ⟨3, rfl, rfl, by decide, HM8⟩
        | 3, _ =>
          go_wp2_with fail
          clear t1
          go_loopg [7] 1 (fun gj jv wr => ∃ j : Nat, jv = .int .i64 (j : Int) ∧ gj = 1 - j ∧ j ≤ 1 ∧ Hid (MY w g #[.string ⟨#[116]⟩, .slice (some ⟨cb, co, none⟩) 3 cc, .slice (some ⟨kb, ko, none⟩) 2 kc, .slice (some ⟨ib, io, none⟩) 1 ic] wr))
          case atStart => exact ⟨0, rfl, rfl, by decide, HM⟩
          case round =>
            obtain ⟨j, rfl, rfl, hj, HM⟩ := hrel
            have t3 := HM.out.row.cell (i := 3) (v := .slice (some ⟨ib, io, none⟩) 1 ic) rfl
            match j, hj with
            | 0, _ =>
              have c0 := (HM.out.hb.cell (cell_lt X0.out)).trans X0.out
              have c1 := (HM.out.hb.cell (cell_lt X1.out)).trans X1.out
              have c2 := (HM.out.hb.cell (cell_lt X2.out)).trans X2.out
              go_upto_region 19 with fail
              clear c0 c1 c2 t3
              have hb5 := (Below.refl _ wr).alloc (Nat.le_refl _) (.cells #[.string ⟨#[105]⟩, .slice xa 1 xc, .bool false] 67)
              have HM5 := Lib.hid (HM.out.later hb5)
              have HX5 := Lib.hid (row_alloc wr 67 #[.string ⟨#[105]⟩, .slice xa 1 xc, .bool false])
              clear hb5 HM
              generalize wr.alloc (.cells #[.string ⟨#[105]⟩, .slice xa 1 xc, .bool false] 67) = w5 at *
              generalize wr.heap.size = gx at *
              have y0 := HX5.out.cell (i := 0) (v := .string ⟨#[105]⟩) rfl
              have HC := Lib.hid (HIDX.out w5 HM5.out.hb)
              go_wp2_with fail
              refine HC.out.mono ?_
              rintro e6 w6 ⟨rfl, rfl⟩
              go_upto_region 20 with fail
              clear y0 HC
              have l0 := lat_cell (HM5.out.row.cell (i := 0) (v := .string ⟨#[116]⟩) rfl)
              have l1 := lat_cell (HM5.out.row.cell (i := 1) (v := .slice (some ⟨cb, co, none⟩) 3 cc) rfl)
              have l2 := lat_cell (HM5.out.row.cell (i := 2) (v := .slice (some ⟨kb, ko, none⟩) 2 kc) rfl)
              have l3 := lat_cell (HM5.out.row.cell (i := 3) (v := .slice (some ⟨ib, io, none⟩) 1 ic) rfl)
              have l4 := lat_cell (HX5.out.cell (i := 0) (v := .string ⟨#[105]⟩) rfl)
              have l5 := lat_cell (HX5.out.cell (i := 1) (v := .slice xa 1 xc) rfl)
              refine wp_region_later (by kernel_rfl) (by kernel_rfl) ?_
              repeat (go_big_quiet_step (first | with_reducible exact lat_calls (HNI.out _) | exact lat_calls (HPX.out _ (next HM5.out.hb (lat_below _ _)))))
              refine wpQuiet_nil ?_
              refine later_out (fun w7 hb7 => ?_)
              have HM7 := Lib.hid (HM5.out.later hb7)
              clear l0 l1 l2 l3 l4 l5 hb7
              go_wp2_with fail
              go_roundg 0
              case measure => exact Nat.zero_lt_one
              case rel => exact ⟨1, rfl, rfl, by decide, HM7⟩
            | 1, _ =>
              go_wp2_with fail
              go_roundg 0
              case measure => exact Nat.zero_lt_one
              case rel => exact ⟨1, rfl, rfl, by decide, Lib.hid HM.out.hb⟩
            | n + 2, hi => exact absurd hi (by omega)
        | n + 4, hi => exact absurd hi (by omega)
    | 1, _ =>
      go_wp2_with fail
      go_ret
      exact ⟨rfl, HB.out⟩
    | n + 2, hi => exact absurd hi (by omega)
end Go.Proofs.YtjgkeillmelkoaaGreat.Dt
