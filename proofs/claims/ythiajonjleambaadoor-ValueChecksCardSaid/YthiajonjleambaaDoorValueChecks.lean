/- ValueChecks: the law returns true at every input. -/
import Derived.Test.YthiajonjleambaaDoorLiftD
import Derived.Test.YthiajonjleambaaDoorTie
import Derived.Test.YthiajonjleambaaDoorCards
import Derived.SevenTiedAt
import Derived.Stop.Joined
import Derived.Test.YthiajonjleambaaDoorValGreat
import Derived.Test.YthiajonjleambaaDoorRefTop
import Derived.Test.YthiajonjleambaaDoorRefRows
import Derived.Test.YthiajonjleambaaDoorValLaid
import Derived.Test.YthiajonjleambaaDoorRefLit
import Derived.Test.YthiajonjleambaaDoorOpen
namespace Go.Proofs.YthiajonjleambaaDoor.ValueChecks
open Go.ChangeShapes Go.WideShapes Go.ChangeAt Go.RowKit Go.Proofs.YthiajonjleambaaDoor.By
set_option linter.unusedVariables false
-- laid
/- ValueChecks: any value: whether it may be, and its literal. No conditions beyond what the row lists. -/
open Go.Proofs.YthiajonjleambaaDoor.Dt
def CheckKn (x : V) (C : Nat) (T : List UInt8) : Nat → Value → World → Prop
  | 0, v, _ => v = x.val
  | 1, v, _ => v = .int .i64 (C : Int)
  | 2, v, _ => v = x.val
  | 3, v, _ => v = .int .i64 (C : Int)
  | 4, v, _ => v = .bool true
  | 5, v, _ => v = .bool true
  | 6, v, _ => v = x.val
  | 7, v, _ => v = str T
  | 8, v, _ => v = x.val
  | 9, v, _ => v = str T
  | 10, v, _ => v = .bool true
  | 11, v, _ => v = .bool true
  | 12, v, _ => v = .bool true
  | _, _, _ => True
theorem CheckKn.later {x : V} {C : Nat} {T : List UInt8} : ∀ (j : Nat) (v : Value) (w1 w2 : World), CheckKn x C T j v w1 → Below w1.heap.size w1 w2 → CheckKn x C T j v w2
  | 0, _, _, _, h, _ => h
  | 1, _, _, _, h, _ => h
  | 2, _, _, _, h, _ => h
  | 3, _, _, _, h, _ => h
  | 4, _, _, _, h, _ => h
  | 5, _, _, _, h, _ => h
  | 6, _, _, _, h, _ => h
  | 7, _, _, _, h, _ => h
  | 8, _, _, _, h, _ => h
  | 9, _, _, _, h, _ => h
  | 10, _, _, _, h, _ => h
  | 11, _, _, _, h, _ => h
  | 12, _, _, _, h, _ => h
  | _ + 13, _, _, _, h, _ => h

set_option maxRecDepth 100000 in
set_option maxHeartbeats 8000000 in
theorem walk (x : V) (w : World) (hw : LW w) (ov : x.ok) :
    Calls Tryd.prog 3 #[x.val] w fun e w' => e = .returned (.bool true) ∧ Below w.heap.size w w' := by
  have OV := Lib.hid ov
  have HW := Lib.hid hw
  clear ov hw
  have hb0 : Below w.heap.size w (w.alloc (.cells #[.int .u8 (x.k : Int), .int .i64 x.n, .string x.s] 23)) := (Below.refl _ _).alloc (Nat.le_refl _) _
  have HB0 := Lib.hid hb0
  clear hb0
  go_enter Tryd.func3, Tryd.ntmps3
  go_wp2_with fail
  refine (works _ (HW.out.later HB0.out)).mono ?_
  rintro e w1 ⟨rfl, hb1⟩
  obtain ⟨x0, x1, x2⟩ := cells_V w w1 x _ hb1
  have HB1 := Lib.hid (next HB0.out hb1)
  clear hb1
  by_cases hla : 16384 < x.s.size
  · have hlg : ∀ W, Calls Tryd.prog 8 #[.string x.s] W fun e w' => e = .returned (.bool true) ∧ W = w' := fun W => by rw [← decide_eq_true hla]; exact longW x.s W
    have HLG := Lib.hid hlg
    clear hlg hla
    go_wp2_with fail
    refine (HLG.out _).mono ?_
    rintro e w2 ⟨rfl, rfl⟩
    go_wp2_with fail
    go_ret
    exact ⟨rfl, HB1.out⟩
  · have hlg : ∀ W, Calls Tryd.prog 8 #[.string x.s] W fun e w' => e = .returned (.bool false) ∧ W = w' := fun W => by rw [← decide_eq_false hla]; exact longW x.s W
    have HLA := Lib.hid hlg
    have HSA : Hid (x.s.size ≤ 16384) := Lib.hid (by omega)
    clear hlg hla
    obtain ⟨C, hC⟩ : ∃ C, C = checkV x := ⟨_, rfl⟩
    obtain ⟨T, hT⟩ : ∃ T, T = litV x := ⟨_, rfl⟩
    have HC1 : Hid (∀ W, Calls Tryd.prog 9 #[x.val] W fun e w' => e = .returned (.int .i64 (C : Int)) ∧ Below W.heap.size W w') := Lib.hid (fun W => by rw [hC]; exact check x W OV.out.1 (by have := OV.out.2.2; omega))
    have HC2 : Hid (∀ W, Calls Tryd.prog 10 #[x.val] W fun e w' => e = .returned (.int .i64 (C : Int)) ∧ Below W.heap.size W w') := Lib.hid (fun W => by rw [hC]; exact refCheck x W)
    have HL1 : Hid (∀ W, LW W → Calls Tryd.prog 11 #[x.val] W fun e w' => e = .returned (str T) ∧ Below W.heap.size W w') := Lib.hid (fun W hw => by rw [hT]; exact literalW x W hw OV.out (by have := HSA.out; omega))
    have HL2 : Hid (∀ W, Calls Tryd.prog 12 #[x.val] W fun e w' => e = .returned (str T) ∧ Below W.heap.size W w') := Lib.hid (fun W => by rw [hT]; exact refLiteralW x W OV.out (by have := HSA.out; omega))
    clear hC hT
    go_wp2_with fail
    refine (HLA.out _).mono ?_
    rintro e w2 ⟨rfl, rfl⟩
    go_upto_region 5 with fail
    have HW1 := Lib.hid (HW.out.later HB1.out)
    generalize hbk : w.heap.size = b at *
    refine wp_region_kip (CheckKn x C T) 20 (by simp) (by kernel_rfl) (by kernel_rfl) CheckKn.later ?_ ?_
    · intro i hi A W hother hbW hd
      match i, hi with
      | 0, hi =>
        have h1 := tmps_at (show A.eval (.tmp 1) = .pointer (some ⟨b, 0, none⟩) from hother 1 (by kernel_rfl))
        have d0 := (hbW.cell (cell_lt x0)).trans x0
        have d1 := (hbW.cell (cell_lt x1)).trans x1
        have d2 := (hbW.cell (cell_lt x2)).trans x2
        clear hother hd hi
        exact kip_same rfl (wanted_none rfl) (x.val) (by simp only [execOp]; go_simp) rfl
      | 1, hi =>
        have h8 := tmps_at ((hd _ rfl ⟨0, .data⟩ (by simp) rfl).eq (x.val) (fun _ h => h) 8 (by kernel_rfl) (by decide))
        clear hother hd hi
        exact kip_call rfl (wanted_none rfl) 9 #[x.val] (by simp only [execOp]; go_simp) ((HC1.out W).mono fun e w2 hh => ⟨⟨_, hh.1, rfl⟩, hh.2⟩)
      | 2, hi =>
        have h1 := tmps_at (show A.eval (.tmp 1) = .pointer (some ⟨b, 0, none⟩) from hother 1 (by kernel_rfl))
        have d0 := (hbW.cell (cell_lt x0)).trans x0
        have d1 := (hbW.cell (cell_lt x1)).trans x1
        have d2 := (hbW.cell (cell_lt x2)).trans x2
        clear hother hd hi
        exact kip_same rfl (wanted_none rfl) (x.val) (by simp only [execOp]; go_simp) rfl
      | 3, hi =>
        have h10 := tmps_at ((hd _ rfl ⟨2, .data⟩ (by simp) rfl).eq (x.val) (fun _ h => h) 10 (by kernel_rfl) (by decide))
        clear hother hd hi
        exact kip_call rfl (wanted_none rfl) 10 #[x.val] (by simp only [execOp]; go_simp) ((HC2.out W).mono fun e w2 hh => ⟨⟨_, hh.1, rfl⟩, hh.2⟩)
      | 4, hi =>
        have h9 := tmps_at ((hd _ rfl ⟨1, .data⟩ (by simp) rfl).eq (.int .i64 (C : Int)) (fun _ h => h) 9 (by kernel_rfl) (by decide))
        have h11 := tmps_at ((hd _ rfl ⟨3, .data⟩ (by simp) rfl).eq (.int .i64 (C : Int)) (fun _ h => h) 11 (by kernel_rfl) (by decide))
        clear hother hd hi
        exact kip_same rfl (wanted_none rfl) (.bool true) (by simp only [execOp]; go_simp) rfl
      | 5, hi =>
        have h12 := tmps_at ((hd _ rfl ⟨4, .data⟩ (by simp) rfl).eq (.bool true) (fun _ h => h) 12 (by kernel_rfl) (by decide))
        clear hother hd hi
        exact kip_same rfl (wanted_none rfl) (.bool true) (by simp only [execOp]; go_simp) rfl
      | 6, hi =>
        have h1 := tmps_at (show A.eval (.tmp 1) = .pointer (some ⟨b, 0, none⟩) from hother 1 (by kernel_rfl))
        have hgd := (hd _ rfl ⟨5, .guard⟩ (by simp) rfl).eq (.bool true) (fun _ h => h) 13 (by kernel_rfl) (by decide)
        have d0 := (hbW.cell (cell_lt x0)).trans x0
        have d1 := (hbW.cell (cell_lt x1)).trans x1
        have d2 := (hbW.cell (cell_lt x2)).trans x2
        clear hother hd hi
        exact kip_same rfl (wanted_some rfl (by kernel_rfl) hgd) (x.val) (by simp only [execOp]; go_simp) rfl
      | 7, hi =>
        have h14 := tmps_at ((hd _ rfl ⟨6, .data⟩ (by simp) rfl).eq (x.val) (fun _ h => h) 14 (by kernel_rfl) (by decide))
        have hgd := (hd _ rfl ⟨5, .guard⟩ (by simp) rfl).eq (.bool true) (fun _ h => h) 13 (by kernel_rfl) (by decide)
        clear hother hd hi
        exact kip_call rfl (wanted_some rfl (by kernel_rfl) hgd) 11 #[x.val] (by simp only [execOp]; go_simp) ((HL1.out W (HW1.out.later hbW)).mono fun e w2 hh => ⟨⟨_, hh.1, rfl⟩, hh.2⟩)
      | 8, hi =>
        have h1 := tmps_at (show A.eval (.tmp 1) = .pointer (some ⟨b, 0, none⟩) from hother 1 (by kernel_rfl))
        have hgd := (hd _ rfl ⟨5, .guard⟩ (by simp) rfl).eq (.bool true) (fun _ h => h) 13 (by kernel_rfl) (by decide)
        have d0 := (hbW.cell (cell_lt x0)).trans x0
        have d1 := (hbW.cell (cell_lt x1)).trans x1
        have d2 := (hbW.cell (cell_lt x2)).trans x2
        clear hother hd hi
        exact kip_same rfl (wanted_some rfl (by kernel_rfl) hgd) (x.val) (by simp only [execOp]; go_simp) rfl
      | 9, hi =>
        have h16 := tmps_at ((hd _ rfl ⟨8, .data⟩ (by simp) rfl).eq (x.val) (fun _ h => h) 16 (by kernel_rfl) (by decide))
        have hgd := (hd _ rfl ⟨5, .guard⟩ (by simp) rfl).eq (.bool true) (fun _ h => h) 13 (by kernel_rfl) (by decide)
        clear hother hd hi
        exact kip_call rfl (wanted_some rfl (by kernel_rfl) hgd) 12 #[x.val] (by simp only [execOp]; go_simp) ((HL2.out W).mono fun e w2 hh => ⟨⟨_, hh.1, rfl⟩, hh.2⟩)
      | 10, hi =>
        have h15 := tmps_at ((hd _ rfl ⟨7, .data⟩ (by simp) rfl).eq (str T) (fun _ h => h) 15 (by kernel_rfl) (by decide))
        have h17 := tmps_at ((hd _ rfl ⟨9, .data⟩ (by simp) rfl).eq (str T) (fun _ h => h) 17 (by kernel_rfl) (by decide))
        have hgd := (hd _ rfl ⟨5, .guard⟩ (by simp) rfl).eq (.bool true) (fun _ h => h) 13 (by kernel_rfl) (by decide)
        clear hother hd hi
        exact kip_same rfl (wanted_some rfl (by kernel_rfl) hgd) (.bool true) (by simp only [execOp]; go_simp) rfl
      | 11, hi =>
        have h13 := tmps_at ((hd _ rfl ⟨5, .data⟩ (by simp) rfl).eq (.bool true) (fun _ h => h) 13 (by kernel_rfl) (by decide))
        have h18 := tmps_at ((hd _ rfl ⟨10, .data⟩ (by simp) rfl).eq (.bool true) (fun _ h => h) 18 (by kernel_rfl) (by decide))
        clear hother hd hi
        exact kip_same rfl (wanted_none rfl) (.bool true) (by simp only [execOp]; go_simp) rfl
      | 12, hi =>
        have h19 := tmps_at ((hd _ rfl ⟨11, .data⟩ (by simp) rfl).eq (.bool true) (fun _ h => h) 19 (by kernel_rfl) (by decide))
        clear hother hd hi
        exact kip_same rfl (wanted_none rfl) (.bool true) (by simp only [execOp]; go_simp) rfl
      | n + 13, hi => simp at hi; omega
    · intro us W hbW hk
      have h12 : us 12 = .bool true := hk 12 (by decide)
      have HB3 : Hid (Below b w W) := Lib.hid (HB1.out.trans (hbW.mono (by have := HB1.out.size; omega)))
      clear hk hbW x0 x1 x2
      simp only [List.length_cons, List.length_nil, Nat.zero_add, Nat.reduceAdd, putAll, dstOf, List.getElem?_toArray, List.getElem?_cons_zero, List.getElem?_cons_succ, Option.bind_some, Act.put, h12]
      simp only [List.setIfInBounds_toArray, List.set_cons_zero, List.set_cons_succ]
      go_wp2_with fail
      refine bodyPost_ret (v := .bool true) (by simp [results, Tryd.results3, go_sem]) rfl ⟨rfl, by rw [hbk]; exact HB3.out⟩

theorem own : ownKnob Tryd.prog.godebug = none := by kernel_rfl
theorem laid : laidOutB Tryd.prog = true := by kernel_rfl
def laidD : List (String × DataW Unit) := [("math/bits.deBruijn32tab", Rows.laid_math_bits_deBruijn32tab), ("math/bits.deBruijn64tab", Rows.laid_math_bits_deBruijn64tab), ("internal/strconv.uint64pow10", Rows.laid_internal_strconv_uint64pow10), ("unicode/utf8.acceptRanges", Rows.laid_unicode_utf8_acceptRanges), ("strconv.ErrRange", Rows.laid_strconv_ErrRange), ("strconv.ErrSyntax", Rows.laid_strconv_ErrSyntax), ("unicode/utf8.first", Rows.laid_unicode_utf8_first)]
theorem tied {ps qs : Array TypeId} {j : Nat} {t : TypeId} (_ : ps = qs) (hall : (ps.all fun u => !Tryd.prog.wantsStandIn u) = true) (ht : ps[j]? = some t) : Tryd.prog.wantsStandIn t = false := by
  obtain ⟨hj, rfl⟩ := Array.getElem?_eq_some_iff.1 ht
  have := Array.all_eq_true.1 hall j hj
  simpa using this

set_option maxRecDepth 100000 in
theorem opened {H : Type} (enc : TypeId × Value → H) (W : World) (args : Array Value) (ds : List (DataW H)) (p : List MemPlace) (hsh : W.ShapedOpen Tryd.prog) (hL : laidMetH Tryd.prog laidD W) :
    Lift.Owes enc Tryd.prog 3 Tryd.f3.params.toList W args ds p := by
  have HL := Lib.hid hL
  clear hL
  intro hA hval hsz _
  rw [Tryd.params3] at hA hval hsz
  obtain ⟨v0, vs0, d0, ds0, p0, q0, hargs, rfl, rfl, h0, r0⟩ := trodAll_cons hA
  obtain ⟨rfl, rfl, rfl⟩ := trodAll_nil r0
  obtain rfl : args = #[v0] := by cases args; simp_all
  obtain ⟨base0, hv0⟩ := hval 0 _ v0 rfl rfl
  obtain ⟨x0, rfl, o0⟩ := arg_V vT hv0 h0 (lim_arg hsz (j := 0) rfl rfl)
  exact walk x0 W (lw hsh HL.out) o0

set_option maxRecDepth 100000 in
theorem lifted (os : Os) (started : os.Started) (H : Type) (enc : TypeId × Value → H) :
    ReturnsInHanded {} Tryd.checked os 3 .any (fun w args => (Rows.valueChecksSpec.pre enc Tryd.prog Tryd.f3 [] false w args ∧ laidMetH Tryd.prog laidD w) ∧ sizedMet enc Tryd.prog Tryd.f3 (OpenSpec.ofChange Rows.valueChecksSpec) false w args)
      (Rows.valueChecksSpec.post enc Tryd.prog Tryd.f3 false true false false) := by
  refine Lift.liftedD (C := Tryd.checked) (X := fun w _ => laidMetH Tryd.prog laidD w) (fun _ _ _ hh h => h.of_heap hh) own started (by kernel_rfl) Tryd.func3
    (ChangeSpec.witness_shaped (enc := enc) (C := Tryd.checked) (os := os) (X := fun w _ => laidMetH Tryd.prog laidD w) false (World.laidAll Tryd.prog os laidD) #[.agg #[.int .u8 0, .int .i64 0, .string ByteArray.empty]] 8 (World.laidAll_os _ _ _)
      (World.shaped_of_ZipB (by kernel_rfl) (by kernel_rfl)) (by kernel_rfl) (by kernel_rfl) (by kernel_rfl)
      (by rw [MakeChecks.laidMetH_plain _ _ _ (by kernel_rfl)]; exact laidMet_laidAll _ (by kernel_rfl) (by kernel_rfl)))
    laid (by rw [Tryd.params3]; intro t ht; simp at ht; rcases ht with rfl <;> exact ⟨by kernel_rfl, of_decide_eq_true (by kernel_rfl)⟩) rfl 4 rfl Tryd.underlying4
    (fun ds hds => by match ds, hds with | [_], _ => rfl) (fun W args ds p hsh hL => opened enc W args ds p hsh hL)

theorem row_said : Rows.ValueChecksSaid :=
  OpenClaim.holds_of_wide 3 Tryd.f3 rfl rfl rfl rfl rfl rfl rfl ⟨rfl, rfl, rfl, rfl, rfl⟩ rfl rfl rfl rfl rfl (by kernel_rfl) Tryd.func3 (by kernel_rfl)
    (of_decide_eq_true (by kernel_rfl)) (by unfold Func.isWrapper; first | (rw [if_pos (by decide +kernel)]; kernel_rfl) | (rw [if_neg (by decide +kernel)]; exact ⟨rfl, rfl⟩))
    (fun os started H enc _ => lifted os started H enc)

theorem said : Rows.ValueChecksCardSaid :=
  Claim7.holds_tied_plain_at .later [] [.data, .data, .data, .data, .sentinel, .sentinel, .pinned] true (true, "4b7a2c20f75bf7682f85fb04ecf290c0a7a2903323aaa919f05a4553b659c440") true
    row_said (fun _ h => by cases h) (by kernel_rfl) (fun _ h => by cases h) valueChecks_row_tie rfl ⟨rfl, rfl⟩ (by kernel_rfl) rfl
    (fun f fn hf hfn => by
      obtain rfl : f = 3 := Option.some.inj ((show Tryd.prog.funcNamed "counterfoil/counterfoillaw07.ValueChecks" = some 3 by kernel_rfl).symm.trans hf) |>.symm
      obtain rfl : fn = Tryd.f3 := (Option.some.inj (Tryd.func3.symm.trans hfn)).symm
      exact ⟨by kernel_rfl, fun j t ht => by
        rw [Tryd.params3] at ht
        exact tied Tryd.params3.symm (by kernel_rfl) ht⟩)
    (by kernel_rfl)
#print axioms said
end Go.Proofs.YthiajonjleambaaDoor.ValueChecks
