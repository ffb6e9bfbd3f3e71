/- EvalSound: the law returns true at every input. -/
import Derived.Test.YtaeobillbocemaaLift
import Derived.Test.YtaeobillbocemaaEvalWorks
import Derived.Test.YtaeobillbocemaaEvalSize
import Derived.Test.YtaeobillbocemaaEvalGreat
import Derived.Test.YtaeobillbocemaaEvalKinds
import Derived.Test.YtaeobillbocemaaEvalKind
import Derived.Test.YtaeobillbocemaaTypes
namespace Go.Proofs.Ytaeobillbocemaa.EvalSound
open Go.ChangeShapes Go.WideShapes Go.ChangeAt Go.RowKit Go.Proofs.Ytaeobillbocemaa.By
set_option linter.unusedVariables false
-- witness .agg #[.int .u8 0, .int .u8 0, .int .i64 0, .string ByteArray.empty, .string ByteArray.empty, .string ByteArray.empty, .int .i64 0, .slice none 0 0]
-- witness .slice none 0 0
-- witness .slice none 0 0
/- EvalSound: an expression whose kind is known comes, for whatever rows of the columns' kinds, to null or a value of that kind. No conditions. -/
open Go.Proofs.Ytaeobillbocemaa.Dt
set_option maxRecDepth 100000 in
set_option maxHeartbeats 16000000 in
theorem walk (x : Ex) (rv cv : Value) (rows : List Rw) (cols : List Nat) (w : World) (hin : x.In w) (hok : x.Ok) (hrows : RowsAt w rv rows) (hrl : rows.length ≤ 140737488351232) (hvl : ∀ r ∈ rows, r.l.length ≤ 140737488351232) (hvs : ∀ r ∈ rows, ∀ v ∈ r.l, v.ok)
    (hcv : U8sAt w cv cols) (hcs : ∀ k ∈ cols, k < 256) (hcl : cols.length ≤ 140737488351232) :
    Calls Try.prog 10 #[x.val, rv, cv] w fun e w' => e = .returned (.bool true) ∧ Below w.heap.size w w' := by
  obtain ⟨ax, cx, ekx⟩ := Ex.kv_of hin
  obtain ⟨R1, hR1⟩ : ∃ R, R = typeS cols false x := ⟨_, rfl⟩
  obtain ⟨R2, hR2⟩ : ∃ R, R = typeS cols true x := ⟨_, rfl⟩
  obtain ⟨R3, hR3⟩ : ∃ R, R = foldS (rows.map Rw.l) (cols.length : Int) x := ⟨_, rfl⟩
  have hsz := fun W (hb : Below w.heap.size w W) => sizeL x 0 W (Ex.in_below (w := w) hb x hin) hok
  have hgr := fun W (hb : Below w.heap.size w W) => greatL rv rows W (hrows.below hb) hrl hvl hvs
  have hkd := fun W (hb : Below w.heap.size w W) => kindsL rv cv rows cols W (hrows.below hb) hrl hvl hvs (hcv.below hb) hcs hcl
  have ht0 := fun W (hb : Below w.heap.size w W) => typeW x cv cols false W hcs hcl (Ex.in_below (w := w) hb x hin) hok (hcv.below hb)
  have ht1 := fun W (hb : Below w.heap.size w W) => typeW x cv cols true W hcs hcl (Ex.in_below (w := w) hb x hin) hok (hcv.below hb)
  have hev := fun (r : Rw) (hr : r ∈ rows) W (hb : Below w.heap.size w W) => evalW x r.hd r.l W (Ex.in_below (w := w) hb x hin) hok ((hrows.rows r hr).below hb) (hvs r hr) (hvl r hr)
  have hfo := fun W (hb : Below w.heap.size w W) => fold x rv rows (cols.length : Int) W (Ex.in_below (w := w) hb x hin) hok (hrows.below hb) hvs hrl (by omega) (by omega)
  rw [← hR1] at ht0
  rw [← hR2] at ht1
  simp only [← hR3] at hfo
  have hs0 : (∀ r ∈ rows, RowK cols r.l) → R1.2 = 0 → ∀ r ∈ rows, Snd R1.1 (evalS r.l x) := by
    intro hk h0 r hr
    rw [hR1] at h0 ⊢
    exact snd_eval (hk r hr) h0
  have hs1 : (∀ r ∈ rows, RowK cols r.l) → R2.2 = 0 → Snd R2.1 R3 := by
    intro hk h0
    rw [hR2] at h0 ⊢
    rw [hR3]
    refine snd_fold (fun r hr => ?_) h0
    obtain ⟨q, hq, rfl⟩ := List.mem_map.1 hr
    exact hk q hq
  obtain ⟨ar, cr, rfl⟩ := hrows.at_.shape
  obtain ⟨ac, cc, rfl⟩ := hcv.shape
  have HROWS := Lib.hid hrows
  have HBA : Hid (Below w.heap.size w (w.alloc (.cells #[.int .u8 (x.op : Int), .int .u8 (x.v.k : Int), .int .i64 x.v.n, .string x.v.s, .string x.t, .string x.m, .int .i64 x.n, .slice ax x.kids.length cx] 26))) := Lib.hid ((Below.refl _ _).alloc (Nat.le_refl _) _)
  have hx8 := box_cells w (w.alloc (.cells #[.int .u8 (x.op : Int), .int .u8 (x.v.k : Int), .int .i64 x.v.n, .string x.v.s, .string x.t, .string x.m, .int .i64 x.n, .slice ax x.kids.length cx] 26)) x 26 (by simp only [exBox, ekx]; exact Below.refl _ _)
  simp only [Ex.val] at hsz ht0 ht1 hev hfo ⊢
  rw [ekx] at hsz ht0 ht1 hfo hx8 ⊢
  simp only [ekx] at hev
  have HSZ := Lib.hid hsz
  have HGR := Lib.hid hgr
  have HKD := Lib.hid hkd
  have HT0 := Lib.hid ht0
  have HT1 := Lib.hid ht1
  have HEV := Lib.hid hev
  have HFO := Lib.hid hfo
  have HS0 := Lib.hid hs0
  have HS1 := Lib.hid hs1
  have HRL := Lib.hid (And.intro hrl hcl)
  clear hsz hgr hkd ht0 ht1 hev hfo hs0 hs1 hR1 hR2 hR3 hin hok hrows hcv hcs hvl hvs ekx hrl hcl
  go_enter Try.func10, Try.ntmps10
  go_wp2_with fail
  generalize hWA : w.alloc (.cells #[.int .u8 (x.op : Int), .int .u8 (x.v.k : Int), .int .i64 x.v.n, .string x.v.s, .string x.t, .string x.m, .int .i64 x.n, .slice ax x.kids.length cx] 26) = WA at *
  clear hWA
  refine (works _).mono ?_
  rintro e w1 ⟨rfl, hb1⟩
  have B1 := Lib.hid (next HBA.out hb1)
  obtain ⟨x0, x1, x2, x3, x4, x5, x6, x7⟩ := hx8
  have y0 := (hb1.cell (cell_lt x0)).trans x0
  have y1 := (hb1.cell (cell_lt x1)).trans x1
  have y2 := (hb1.cell (cell_lt x2)).trans x2
  have y3 := (hb1.cell (cell_lt x3)).trans x3
  have y4 := (hb1.cell (cell_lt x4)).trans x4
  have y5 := (hb1.cell (cell_lt x5)).trans x5
  have y6 := (hb1.cell (cell_lt x6)).trans x6
  have y7 := (hb1.cell (cell_lt x7)).trans x7
  clear x0 x1 x2 x3 x4 x5 x6 x7
  clear hb1
  go_wp2_with fail
  refine (HSZ.out _ B1.out).mono ?_
  rintro e w2 ⟨⟨n, rfl⟩, hb2⟩
  have B2 := Lib.hid (next B1.out hb2)
  have x0 := (hb2.cell (cell_lt y0)).trans y0
  have x1 := (hb2.cell (cell_lt y1)).trans y1
  have x2 := (hb2.cell (cell_lt y2)).trans y2
  have x3 := (hb2.cell (cell_lt y3)).trans y3
  have x4 := (hb2.cell (cell_lt y4)).trans y4
  have x5 := (hb2.cell (cell_lt y5)).trans y5
  have x6 := (hb2.cell (cell_lt y6)).trans y6
  have x7 := (hb2.cell (cell_lt y7)).trans y7
  clear y0 y1 y2 y3 y4 y5 y6 y7
  clear hb2
  by_cases hn : 200 < n
  · have en : decide (200 < n) = true := decide_eq_true hn
    clear hn
    go_wp2_with fail
    go_ret
    exact ⟨rfl, B2.out⟩
  have en : decide (200 < n) = false := decide_eq_false hn
  clear hn
  go_wp2_with fail
  refine (HGR.out _ B2.out).mono ?_
  rintro e w3 ⟨⟨b, rfl⟩, hb3⟩
  have B3 := Lib.hid (next B2.out hb3)
  have y0 := (hb3.cell (cell_lt x0)).trans x0
  have y1 := (hb3.cell (cell_lt x1)).trans x1
  have y2 := (hb3.cell (cell_lt x2)).trans x2
  have y3 := (hb3.cell (cell_lt x3)).trans x3
  have y4 := (hb3.cell (cell_lt x4)).trans x4
  have y5 := (hb3.cell (cell_lt x5)).trans x5
  have y6 := (hb3.cell (cell_lt x6)).trans x6
  have y7 := (hb3.cell (cell_lt x7)).trans x7
  clear x0 x1 x2 x3 x4 x5 x6 x7
  clear hb3
  cases b
  case true =>
    go_wp2_with fail
    go_ret
    exact ⟨rfl, B3.out⟩
  by_cases hc : 40 < cols.length
  · have ec : decide ((40 : Int) < (cols.length : Int)) = true := decide_eq_true (by omega)
    go_wp2_with fail
    go_ret
    exact ⟨rfl, B3.out⟩
  have ec : decide ((40 : Int) < (cols.length : Int)) = false := decide_eq_false (by omega)
  clear hc
  go_wp2_with fail
  refine (HKD.out _ B3.out).mono ?_
  rintro e w4 ⟨⟨b, rfl, hkb⟩, hb4⟩
  have B4 := Lib.hid (next B3.out hb4)
  have x0 := (hb4.cell (cell_lt y0)).trans y0
  have x1 := (hb4.cell (cell_lt y1)).trans y1
  have x2 := (hb4.cell (cell_lt y2)).trans y2
  have x3 := (hb4.cell (cell_lt y3)).trans y3
  have x4 := (hb4.cell (cell_lt y4)).trans y4
  have x5 := (hb4.cell (cell_lt y5)).trans y5
  have x6 := (hb4.cell (cell_lt y6)).trans y6
  have x7 := (hb4.cell (cell_lt y7)).trans y7
  clear y0 y1 y2 y3 y4 y5 y6 y7
  clear hb4
  cases b
  · clear hkb
    go_wp2_with fail
    go_ret
    exact ⟨rfl, B4.out⟩
  have HKB := Lib.hid (hkb rfl)
  clear hkb
  go_wp2_with fail
  refine (HT0.out _ B4.out).mono ?_
  rintro e w5 ⟨rfl, hb5⟩
  have B5 := Lib.hid (next B4.out hb5)
  have y0 := (hb5.cell (cell_lt x0)).trans x0
  have y1 := (hb5.cell (cell_lt x1)).trans x1
  have y2 := (hb5.cell (cell_lt x2)).trans x2
  have y3 := (hb5.cell (cell_lt x3)).trans x3
  have y4 := (hb5.cell (cell_lt x4)).trans x4
  have y5 := (hb5.cell (cell_lt x5)).trans x5
  have y6 := (hb5.cell (cell_lt x6)).trans x6
  have y7 := (hb5.cell (cell_lt x7)).trans x7
  clear x0 x1 x2 x3 x4 x5 x6 x7
  clear hb5
  go_wp2_with fail
  go_loopg [43] rows.length (fun gk i wr => ∃ k : Nat, i = .int .i64 (k : Int) ∧ gk = rows.length - k ∧ k ≤ rows.length ∧ Hid (Below w5.heap.size w5 wr))
  case atStart => exact ⟨0, rfl, rfl, Nat.zero_le _, Lib.hid (Below.refl _ _)⟩
  case round =>
    obtain ⟨k, rfl, rfl, hkl, hbr⟩ := hrel
    have z0 := (hbr.out.cell (cell_lt y0)).trans y0
    have z1 := (hbr.out.cell (cell_lt y1)).trans y1
    have z2 := (hbr.out.cell (cell_lt y2)).trans y2
    have z3 := (hbr.out.cell (cell_lt y3)).trans y3
    have z4 := (hbr.out.cell (cell_lt y4)).trans y4
    have z5 := (hbr.out.cell (cell_lt y5)).trans y5
    have z6 := (hbr.out.cell (cell_lt y6)).trans y6
    have z7 := (hbr.out.cell (cell_lt y7)).trans y7
    clear y0 y1 y2 y3 y4 y5 y6 y7
    have BR := Lib.hid (next B5.out hbr.out)
    by_cases hlt : k < rows.length
    · obtain ⟨row, hy⟩ : ∃ y, rows[k]? = some y := ⟨rows[k], by simp⟩
      have hym : row ∈ rows := List.mem_of_getElem? hy
      have hra := HROWS.out.below BR.out
      obtain ⟨b, o, rfl, hbz, dr⟩ := atR hra.at_ hy
      obtain ⟨a3, c3, e3⟩ := (HROWS.out.rows row hym).shape
      have hev := HEV.out row hym
      rw [e3] at dr hev
      obtain ⟨R, hR⟩ : ∃ R, R = evalS row.l x := ⟨_, rfl⟩
      simp only [← hR] at hev
      have HE := Lib.hid hev
      have HSN : Hid (R1.2 = 0 → Snd R1.1 R) := Lib.hid (fun h0 => hR ▸ HS0.out HKB.out h0 row hym)
      have ilt : (k : Int) < (rows.length : Int) := by omega
      have HLT := Lib.hid hlt
      have hkk : wrap64 ((k : Int) + 1) = ((k + 1 : Nat) : Int) := by have := HRL.out.1; unfold wrap64; omega
      have HKK := Lib.hid hkk
      clear hev hR e3 hra hy hym hlt hkk
      go_wp2_with fail
      refine (HE.out _ BR.out).mono ?_
      rintro e w6 ⟨rfl, hb6⟩
      have HB6 := Lib.hid (next hbr.out hb6)
      clear hb6 dr
      have hend : ∀ W, Below w6.heap.size w6 W → Hid (Below w5.heap.size w5 W) := fun W hb => Lib.hid (next HB6.out hb)
      have HEND := Lib.hid hend
      clear hend
      by_cases h0 : R1.2 = 0
      · have e0 : ((R1.2 : Int) == 0) = true := by simp [h0]
        obtain ⟨h150, h2, hkd⟩ := HSN.out h0
        have e1 : ((R.2 : Int) == 150) = false := by simp; omega
        have e2 : ((R.2 : Int) == 2) = false := by simp; omega
        clear h150 h2 h0
        by_cases hz : R.1.k = 0
        · have e3 : ((R.1.k : Int) != 0) = false := by simp [hz]
          clear hz hkd
          go_wp2_with fail
          go_roundg (rows.length - (k + 1))
          case measure => exact Nat.sub_lt_sub_left HLT.out (Nat.lt_succ_self _)
          case rel => exact ⟨k + 1, by first | rfl | exact congrArg (Value.int .i64) HKK.out | go_num, rfl, HLT.out, HEND.out _ ((Below.refl _ _).alloc (Nat.le_refl _) _)⟩
        · have e3 : ((R.1.k : Int) != 0) = true := by simp; omega
          have e4 : ((R.1.k : Int) != (R1.1 : Int)) = false := by
            rcases hkd with h | h
            · exact absurd h hz
            · simp [h]
          clear hz hkd
          go_wp2_with fail
          go_roundg (rows.length - (k + 1))
          case measure => exact Nat.sub_lt_sub_left HLT.out (Nat.lt_succ_self _)
          case rel => exact ⟨k + 1, by first | rfl | exact congrArg (Value.int .i64) HKK.out | go_num, rfl, HLT.out, HEND.out _ ((Below.refl _ _).alloc (Nat.le_refl _) _)⟩
      · have e0 : ((R1.2 : Int) == 0) = false := by simp; omega
        clear h0
        go_wp2_with fail
        go_roundg (rows.length - (k + 1))
        case measure => exact Nat.sub_lt_sub_left HLT.out (Nat.lt_succ_self _)
        case rel => exact ⟨k + 1, by first | rfl | exact congrArg (Value.int .i64) HKK.out | go_num, rfl, HLT.out, HEND.out _ ((Below.refl _ _).alloc (Nat.le_refl _) _)⟩
    · obtain rfl : k = rows.length := by omega
      clear hlt hkl
      go_wp2_with fail
      refine (HT1.out _ BR.out).mono ?_
      rintro e w6 ⟨rfl, hb6⟩
      have B6 := Lib.hid (next BR.out hb6)
      have x0 := (hb6.cell (cell_lt z0)).trans z0
      have x1 := (hb6.cell (cell_lt z1)).trans z1
      have x2 := (hb6.cell (cell_lt z2)).trans z2
      have x3 := (hb6.cell (cell_lt z3)).trans z3
      have x4 := (hb6.cell (cell_lt z4)).trans z4
      have x5 := (hb6.cell (cell_lt z5)).trans z5
      have x6 := (hb6.cell (cell_lt z6)).trans z6
      have x7 := (hb6.cell (cell_lt z7)).trans z7
      clear z0 z1 z2 z3 z4 z5 z6 z7
      clear hb6
      go_wp2_with fail
      refine (HFO.out _ B6.out).mono ?_
      rintro e w7 ⟨rfl, hb7⟩
      have B7 := Lib.hid (next B6.out hb7)
      clear hb7 x0 x1 x2 x3 x4 x5 x6 x7
      by_cases h0 : R2.2 = 0
      · have e0 : ((R2.2 : Int) != 0) = false := by simp [h0]
        obtain ⟨h150, h2, hkd⟩ := HS1.out HKB.out h0
        have e1 : ((R3.2 : Int) != 150) = true := by simp; omega
        have e2 : ((R3.2 : Int) != 2) = true := by simp; omega
        clear h150 h2 h0
        by_cases hz : R3.1.k = 0
        · have e3 : ((R3.1.k : Int) == 0) = true := by simp [hz]
          clear hz hkd
          go_wp2_with fail
          go_ret
          exact ⟨rfl, B7.out.alloc B7.out.size _⟩
        · have e3 : ((R3.1.k : Int) == 0) = false := by simp; omega
          have e4 : ((R3.1.k : Int) == (R2.1 : Int)) = true := by
            rcases hkd with h | h
            · exact absurd h hz
            · simp [h]
          clear hz hkd
          go_wp2_with fail
          go_ret
          exact ⟨rfl, B7.out.alloc B7.out.size _⟩
      · have e0 : ((R2.2 : Int) != 0) = true := by simp; omega
        clear h0
        go_wp2_with fail
        go_ret
        exact ⟨rfl, B7.out.alloc B7.out.size _⟩

theorem opened {H : Type} (enc : TypeId × Value → H) (W : World) (args : Array Value) (ds : List (DataW H)) (p : List MemPlace) :
    Lift.Owes enc Try.prog 10 Try.f10.params.toList W args ds p := by
  intro hA hval hsz _
  rw [Try.params10] at hA hval hsz
  obtain ⟨v0, vs0, d0, ds0, p0, q0, hargs, rfl, rfl, h0, r0⟩ := trodAll_cons hA
  obtain ⟨v1, vs1, d1, ds1, p1, q1, rfl, rfl, rfl, h1, r1⟩ := trodAll_cons r0
  obtain ⟨v2, vs2, d2, ds2, p2, q2, rfl, rfl, rfl, h2, r2⟩ := trodAll_cons r1
  obtain ⟨rfl, rfl, rfl⟩ := trodAll_nil r2
  obtain rfl : args = #[v0, v1, v2] := by cases args; simp_all
  obtain ⟨base0, hv0⟩ := hval 0 _ v0 rfl rfl
  obtain ⟨x, rfl, hin, hok⟩ := arg_Ex exT hv0 h0 (lim_arg hsz (j := 0) rfl rfl)
  obtain ⟨base1, hv1⟩ := hval 1 _ v1 rfl rfl
  obtain ⟨rows, hrows, hro, hrl⟩ := arg_Rows vT (u := 27) (by kernel_rfl) (by kernel_rfl) (by kernel_rfl) (by kernel_rfl) hv1 h1 (lim_arg hsz (j := 1) rfl rfl)
  obtain ⟨base2, hv2⟩ := hval 2 _ v2 rfl rfl
  obtain ⟨cols, hcv, hcs, hcl⟩ := arg_U8s (e := 5) (by kernel_rfl) (by kernel_rfl) (by kernel_rfl) (by kernel_rfl) hv2 h2 (lim_arg hsz (j := 2) rfl rfl)
  exact walk x v1 v2 rows cols W hin hok hrows (by omega) (fun r hr => by have := (hro r hr).2; omega) (fun r hr => (hro r hr).1) hcv hcs (by omega)

theorem own : ownKnob Try.prog.godebug = none := by kernel_rfl
theorem laid : laidOutB Try.prog = true := by kernel_rfl

set_option maxRecDepth 100000 in
theorem lifted (os : Os) (started : os.Started) (H : Type) (enc : TypeId × Value → H) :
    ReturnsInHanded {} Try.checked os 10 .any (Rows.evalSoundSpec.pre6 enc Try.prog Try.f10 Rows.evalSoundRow.domain false)
      (Rows.evalSoundSpec.post enc Try.prog Try.f10 false true false false) := by
  refine Lift.lifted (C := Try.checked) own started (by kernel_rfl) Try.func10
    (ChangeSpec.witness6 (enc := enc) (C := Try.checked) false ⟨#[], #[.agg #[.int .u8 0, .int .u8 0, .int .i64 0, .string ByteArray.empty, .string ByteArray.empty, .string ByteArray.empty, .int .i64 0, .slice none 0 0], .slice none 0 0, .slice none 0 0], []⟩ 8 (by kernel_rfl) (by kernel_rfl) (by kernel_rfl) (by kernel_rfl))
    laid (by rw [Try.params10]; intro t ht; simp at ht; rcases ht with rfl | rfl | rfl <;> exact ⟨by kernel_rfl, of_decide_eq_true (by kernel_rfl)⟩) rfl 4 rfl Try.underlying4
    (fun ds hds => by match ds, hds with | [_, _, _], _ => rfl) (opened enc)

theorem said : Rows.EvalSoundSaid :=
  OpenClaim.holds_of_wide 10 Try.f10 rfl rfl rfl rfl rfl rfl rfl ⟨rfl, rfl, rfl, rfl, rfl⟩ rfl rfl rfl rfl rfl (by kernel_rfl) Try.func10 (by kernel_rfl)
    (of_decide_eq_true (by kernel_rfl)) (by unfold Func.isWrapper; first | (rw [if_pos (by decide +kernel)]; kernel_rfl) | (rw [if_neg (by decide +kernel)]; exact ⟨rfl, rfl⟩))
    (fun os started H enc _ => lifted os started H enc)
#print axioms said
end Go.Proofs.Ytaeobillbocemaa.EvalSound
