/- ValueRows: the law returns true at every input. -/
import Derived.Test.YthiajonjleambaaDoorLiftD
import Derived.Test.YthiajonjleambaaDoorTie
import Derived.Test.YthiajonjleambaaDoorCards
import Derived.SevenTiedAt
import Derived.Stop.Joined
import Derived.Test.YthiajonjleambaaDoorValGreat
import Derived.Test.YthiajonjleambaaDoorRefTop
import Derived.Test.YthiajonjleambaaDoorRefRows
import Derived.Test.YthiajonjleambaaDoorValLaid
import Derived.Test.YthiajonjleambaaDoorOpen
namespace Go.Proofs.YthiajonjleambaaDoor.ValueRows
open Go.ChangeShapes Go.WideShapes Go.ChangeAt Go.RowKit Go.Proofs.YthiajonjleambaaDoor.By
set_option linter.unusedVariables false
-- laid
/- ValueRows: any rows: their order. No conditions beyond what the row lists. -/
open Go.Proofs.YthiajonjleambaaDoor.Dt
set_option maxRecDepth 100000 in
set_option maxHeartbeats 8000000 in
theorem walk (rv : Value) (a : List V) (tv : Value) (b : List V) (w : World) (hw : LW w) (ha : VsAt w rv a) (oa : ∀ v ∈ a, v.ok) (la : a.length ≤ 140737488351232) (hb : VsAt w tv b) (ob : ∀ v ∈ b, v.ok) (lb : b.length ≤ 140737488351232) :
    Calls Tryd.prog 5 #[rv, tv] w fun e w' => e = .returned (.bool true) ∧ Below w.heap.size w w' := by
  obtain ⟨ar, cr, rfl⟩ := ha.shape
  obtain ⟨at', ct, rfl⟩ := hb.shape
  have HA := Lib.hid ha
  have HB := Lib.hid hb
  have OA := Lib.hid oa
  have OB := Lib.hid ob
  have LA := Lib.hid la
  have LB := Lib.hid lb
  have HW := Lib.hid hw
  clear ha hb oa ob la lb hw
  go_enter Tryd.func5, Tryd.ntmps5
  go_wp2_with fail
  refine (works w HW.out).mono ?_
  rintro e w1 ⟨rfl, hb1⟩
  have HB1 := Lib.hid hb1
  clear hb1
  go_wp2_with fail
  refine (greatW _ a w1 (HA.out.below HB1.out) LA.out).mono ?_
  rintro e w2 ⟨⟨B, rfl, hg⟩, hb2⟩
  have HB2 := Lib.hid (next HB1.out hb2)
  clear hb2
  cases B with
  | true =>
    clear hg
    go_wp2_with fail
    go_ret
    exact ⟨rfl, HB2.out⟩
  | false =>
    have HGA := Lib.hid (hg rfl)
    clear hg
    go_wp2_with fail
    refine (greatW _ b w2 (HB.out.below HB2.out) LB.out).mono ?_
    rintro e w3 ⟨⟨B, rfl, hg⟩, hb3⟩
    have HB3 := Lib.hid (next HB2.out hb3)
    clear hb3
    cases B with
    | true =>
      clear hg
      go_wp2_with fail
      go_ret
      exact ⟨rfl, HB3.out⟩
    | false =>
      have HGB := Lib.hid (hg rfl)
      clear hg
      obtain ⟨C, hC⟩ : ∃ C, C = cmpRow a b := ⟨_, rfl⟩
      have h1 := rowsW _ _ a b w3 (HA.out.below HB3.out) (HB.out.below HB3.out) (by have := HGA.out.1; omega) (by have := HGB.out.1; omega)
      rw [← hC] at h1
      have H1 := Lib.hid h1
      have HRR := Lib.hid (fun (W : World) (hh : Below w.heap.size w W) => (show Calls Tryd.prog 17 #[.slice ar a.length cr, .slice at' b.length ct] W fun e w' => e = .returned (.int .i64 C) ∧ Below W.heap.size W w' from by
        rw [hC]
        exact refRowsW _ _ a b W (HA.out.below hh) (HB.out.below hh) OA.out OB.out (by have := HGA.out.1; omega) (by have := HGB.out.1; omega)))
      clear h1 hC
      go_wp2_with fail
      refine H1.out.mono ?_
      rintro e w4 ⟨rfl, hb4⟩
      have HB4 := Lib.hid (next HB3.out hb4)
      clear hb4
      go_wp2_with fail
      refine (HRR.out _ HB4.out).mono ?_
      rintro e w5 ⟨rfl, hb5⟩
      have HB5 := Lib.hid (next HB4.out hb5)
      clear hb5
      go_wp2_with fail
      refine bodyPost_ret (v := .bool true) (by simp [results, Tryd.results5, go_sem]) rfl ⟨rfl, HB5.out⟩

theorem own : ownKnob Tryd.prog.godebug = none := by kernel_rfl
theorem laid : laidOutB Tryd.prog = true := by kernel_rfl
def laidD : List (String × DataW Unit) := [("math/bits.deBruijn32tab", Rows.laid_math_bits_deBruijn32tab), ("math/bits.deBruijn64tab", Rows.laid_math_bits_deBruijn64tab), ("internal/strconv.uint64pow10", Rows.laid_internal_strconv_uint64pow10), ("unicode/utf8.acceptRanges", Rows.laid_unicode_utf8_acceptRanges), ("strconv.ErrRange", Rows.laid_strconv_ErrRange), ("strconv.ErrSyntax", Rows.laid_strconv_ErrSyntax), ("unicode/utf8.first", Rows.laid_unicode_utf8_first)]
theorem tied {ps qs : Array TypeId} {j : Nat} {t : TypeId} (_ : ps = qs) (hall : (ps.all fun u => !Tryd.prog.wantsStandIn u) = true) (ht : ps[j]? = some t) : Tryd.prog.wantsStandIn t = false := by
  obtain ⟨hj, rfl⟩ := Array.getElem?_eq_some_iff.1 ht
  have := Array.all_eq_true.1 hall j hj
  simpa using this

set_option maxRecDepth 100000 in
theorem opened {H : Type} (enc : TypeId × Value → H) (W : World) (args : Array Value) (ds : List (DataW H)) (p : List MemPlace) (hsh : W.ShapedOpen Tryd.prog) (hL : laidMetH Tryd.prog laidD W) :
    Lift.Owes enc Tryd.prog 5 Tryd.f5.params.toList W args ds p := by
  have HL := Lib.hid hL
  clear hL
  intro hA hval hsz _
  rw [Tryd.params5] at hA hval hsz
  obtain ⟨v0, vs0, d0, ds0, p0, q0, hargs, rfl, rfl, h0, r0⟩ := trodAll_cons hA
  obtain ⟨v1, vs1, d1, ds1, p1, q1, rfl, rfl, rfl, h1, r1⟩ := trodAll_cons r0
  obtain ⟨rfl, rfl, rfl⟩ := trodAll_nil r1
  obtain rfl : args = #[v0, v1] := by cases args; simp_all
  obtain ⟨base0, hv0⟩ := hval 0 _ v0 rfl rfl
  obtain ⟨X0, a0, o0, l0⟩ := arg_Vs vT (by kernel_rfl) hv0 h0 (lim_arg hsz (j := 0) rfl rfl)
  obtain ⟨base1, hv1⟩ := hval 1 _ v1 rfl rfl
  obtain ⟨X1, a1, o1, l1⟩ := arg_Vs vT (by kernel_rfl) hv1 h1 (lim_arg hsz (j := 1) rfl rfl)
  exact walk v0 X0 v1 X1 W (lw hsh HL.out) a0 o0 (by omega) a1 o1 (by omega)

set_option maxRecDepth 100000 in
theorem lifted (os : Os) (started : os.Started) (H : Type) (enc : TypeId × Value → H) :
    ReturnsInHanded {} Tryd.checked os 5 .any (fun w args => (Rows.valueRowsSpec.pre enc Tryd.prog Tryd.f5 [] false w args ∧ laidMetH Tryd.prog laidD w) ∧ sizedMet enc Tryd.prog Tryd.f5 (OpenSpec.ofChange Rows.valueRowsSpec) false w args)
      (Rows.valueRowsSpec.post enc Tryd.prog Tryd.f5 false true false false) := by
  refine Lift.liftedD (C := Tryd.checked) (X := fun w _ => laidMetH Tryd.prog laidD w) (fun _ _ _ hh h => h.of_heap hh) own started (by kernel_rfl) Tryd.func5
    (ChangeSpec.witness_shaped (enc := enc) (C := Tryd.checked) (os := os) (X := fun w _ => laidMetH Tryd.prog laidD w) false (World.laidAll Tryd.prog os laidD) #[.slice none 0 0, .slice none 0 0] 8 (World.laidAll_os _ _ _)
      (World.shaped_of_ZipB (by kernel_rfl) (by kernel_rfl)) (by kernel_rfl) (by kernel_rfl) (by kernel_rfl)
      (by rw [MakeChecks.laidMetH_plain _ _ _ (by kernel_rfl)]; exact laidMet_laidAll _ (by kernel_rfl) (by kernel_rfl)))
    laid (by rw [Tryd.params5]; intro t ht; simp at ht; rcases ht with rfl | rfl <;> exact ⟨by kernel_rfl, of_decide_eq_true (by kernel_rfl)⟩) rfl 4 rfl Tryd.underlying4
    (fun ds hds => by match ds, hds with | [_, _], _ => rfl) (fun W args ds p hsh hL => opened enc W args ds p hsh hL)

theorem row_said : Rows.ValueRowsSaid :=
  OpenClaim.holds_of_wide 5 Tryd.f5 rfl rfl rfl rfl rfl rfl rfl ⟨rfl, rfl, rfl, rfl, rfl⟩ rfl rfl rfl rfl rfl (by kernel_rfl) Tryd.func5 (by kernel_rfl)
    (of_decide_eq_true (by kernel_rfl)) (by unfold Func.isWrapper; first | (rw [if_pos (by decide +kernel)]; kernel_rfl) | (rw [if_neg (by decide +kernel)]; exact ⟨rfl, rfl⟩))
    (fun os started H enc _ => lifted os started H enc)

theorem said : Rows.ValueRowsCardSaid :=
  Claim7.holds_tied_plain_at .later [] [.data, .data, .data, .data, .sentinel, .sentinel, .pinned] true (true, "4b7a2c20f75bf7682f85fb04ecf290c0a7a2903323aaa919f05a4553b659c440") true
    row_said (fun _ h => by cases h) (by kernel_rfl) (fun _ h => by cases h) valueRows_row_tie rfl ⟨rfl, rfl⟩ (by kernel_rfl) rfl
    (fun f fn hf hfn => by
      obtain rfl : f = 5 := Option.some.inj ((show Tryd.prog.funcNamed "counterfoil/counterfoillaw07.ValueRows" = some 5 by kernel_rfl).symm.trans hf) |>.symm
      obtain rfl : fn = Tryd.f5 := (Option.some.inj (Tryd.func5.symm.trans hfn)).symm
      exact ⟨by kernel_rfl, fun j t ht => by
        rw [Tryd.params5] at ht
        exact tied Tryd.params5.symm (by kernel_rfl) ht⟩)
    (by kernel_rfl)
#print axioms said
end Go.Proofs.YthiajonjleambaaDoor.ValueRows
