/- KeyPuts: the law returns true at every input. -/
import Derived.Test.YtclkpbokngamiaaDoorLiftD
import Derived.Test.YtclkpbokngamiaaDoorTie
import Derived.Test.YtclkpbokngamiaaDoorCards
import Derived.SevenTiedAt
import Derived.Stop.Joined
import Derived.Test.YtclkpbokngamiaaDoorKeyGreat
import Derived.Test.YtclkpbokngamiaaDoorKeyOne
import Derived.Test.YtclkpbokngamiaaDoorOpen
import Derived.Test.YtclkpbokngamiaaDoorKeyMax
namespace Go.Proofs.YtclkpbokngamiaaDoor.KeyPuts
open Go.ChangeShapes Go.WideShapes Go.ChangeAt Go.RowKit Go.Proofs.YtclkpbokngamiaaDoor.By
set_option linter.unusedVariables false
-- witness .slice none 0 0
/- KeyPuts: any row's key as the reference puts it. No conditions beyond what the row lists. -/
open Go.Proofs.YtclkpbokngamiaaDoor.Dt
set_option maxRecDepth 100000 in
set_option maxHeartbeats 8000000 in
theorem walk (rv : Value) (row : List V) (w : World) (hm : MaxAt w) (hrow : VsAt w rv row) (hok : ∀ v ∈ row, v.ok) (hl : row.length ≤ 140737488351232) :
    Calls Tryd.prog 3 #[rv] w fun e w' => e = .returned (.bool true) ∧ Below w.heap.size w w' := by
  obtain ⟨ar, cr, rfl⟩ := hrow.shape
  have HROW := Lib.hid hrow
  have HOK := Lib.hid hok
  have HL := Lib.hid hl
  have HM := Lib.hid hm
  clear hrow hok hl hm
  go_enter Tryd.func3, Tryd.ntmps3
  go_wp2_with fail
  refine (works w HM.out).mono ?_
  rintro e w1 ⟨rfl, hb1⟩
  have HB1 := Lib.hid hb1
  clear hb1
  go_wp2_with fail
  refine (greatK _ row w1 (HROW.out.below HB1.out) HL.out).mono ?_
  rintro e w2 ⟨hr, hb2⟩
  have HB2 := Lib.hid (next HB1.out hb2)
  clear hb2
  rcases hr with rfl | ⟨rfl, h60⟩
  · go_wp2_with fail
    go_ret
    exact ⟨rfl, HB2.out⟩
  have H60 := Lib.hid h60
  clear h60
  obtain ⟨R, hR⟩ : ∃ R : List UInt8, R = (if errK row = 0 then allK row else []) := ⟨_, rfl⟩
  have hput := putW _ row w2 (HM.out.later HB2.out) (HROW.out.below HB2.out) HOK.out (by have := H60.out; omega)
  rw [← hR] at hput
  have HPUT := Lib.hid hput
  have HR := Lib.hid hR
  clear hput hR
  generalize hE : errK row = E at HPUT
  have HE := Lib.hid hE
  clear hE
  go_wp2_with fail
  refine HPUT.out.mono ?_
  clear HPUT
  rintro e w3 ⟨rfl, hb3⟩
  have HB3 := Lib.hid (next HB2.out hb3)
  clear hb3
  have hput := refPutW _ row w3 (HROW.out.below HB3.out) HOK.out (by have := H60.out; omega)
  rw [← HR.out, HE.out] at hput
  have HPUT := Lib.hid hput
  clear hput HR HE
  go_wp2_with fail
  refine HPUT.out.mono ?_
  clear HPUT
  rintro e w4 ⟨rfl, hb4⟩
  have HB4 := Lib.hid (next HB3.out hb4)
  clear hb4
  go_wp2_with fail
  go_ret
  exact ⟨rfl, HB4.out⟩

theorem opened {H : Type} (enc : TypeId × Value → H) (W : World) (args : Array Value) (ds : List (DataW H)) (p : List MemPlace) (hsh : W.ShapedOpen Tryd.prog) :
    Lift.Owes enc Tryd.prog 3 Tryd.f3.params.toList W args ds p := by
  intro hA hval hsz _
  rw [Tryd.params3] at hA hval hsz
  obtain ⟨v0, vs0, d0, ds0, p0, q0, hargs, rfl, rfl, h0, r0⟩ := trodAll_cons hA
  obtain ⟨rfl, rfl, rfl⟩ := trodAll_nil r0
  obtain rfl : args = #[v0] := by cases args; simp_all
  obtain ⟨base0, hv0⟩ := hval 0 _ v0 rfl rfl
  obtain ⟨A, hrA, hoA, hlA⟩ := arg_Vs vT (by kernel_rfl) hv0 h0 (lim_arg hsz (j := 0) rfl rfl)
  exact walk v0 A W (maxAt hsh) hrA hoA (by omega)

theorem own : ownKnob Tryd.prog.godebug = none := by kernel_rfl
theorem laid : laidOutB Tryd.prog = true := by kernel_rfl
def laidD : List (String × DataW Unit) := [("unicode/utf8.acceptRanges", Rows.laid_unicode_utf8_acceptRanges), ("unicode/utf8.first", Rows.laid_unicode_utf8_first)]
theorem tied {ps qs : Array TypeId} {j : Nat} {t : TypeId} (_ : ps = qs) (hall : (ps.all fun u => !Tryd.prog.wantsStandIn u) = true) (ht : ps[j]? = some t) : Tryd.prog.wantsStandIn t = false := by
  obtain ⟨hj, rfl⟩ := Array.getElem?_eq_some_iff.1 ht
  have := Array.all_eq_true.1 hall j hj
  simpa using this

set_option maxRecDepth 100000 in
theorem lifted (os : Os) (started : os.Started) (H : Type) (enc : TypeId × Value → H) :
    ReturnsInHanded {} Tryd.checked os 3 .any (fun w args => (Rows.keyPutsSpec.pre enc Tryd.prog Tryd.f3 [] false w args ∧ laidMetH Tryd.prog laidD w) ∧ sizedMet enc Tryd.prog Tryd.f3 (OpenSpec.ofChange Rows.keyPutsSpec) false w args)
      (Rows.keyPutsSpec.post enc Tryd.prog Tryd.f3 false true false false) := by
  refine Lift.liftedD (C := Tryd.checked) (X := fun w _ => laidMetH Tryd.prog laidD w) (fun _ _ _ hh h => h.of_heap hh) own started (by kernel_rfl) Tryd.func3
    (ChangeSpec.witness_shaped (enc := enc) (C := Tryd.checked) (os := os) (X := fun w _ => laidMetH Tryd.prog laidD w) false (World.laidAll Tryd.prog os laidD) #[.slice none 0 0] 8 (World.laidAll_os _ _ _)
      (World.shaped_of_ZipB (by kernel_rfl) (by kernel_rfl)) (by kernel_rfl) (by kernel_rfl) (by kernel_rfl)
      (by rw [MakeChecks.laidMetH_plain _ _ _ (by kernel_rfl)]; exact laidMet_laidAll _ (by kernel_rfl) (by kernel_rfl)))
    laid (by rw [Tryd.params3]; intro t ht; simp at ht; rcases ht with rfl <;> exact ⟨by kernel_rfl, of_decide_eq_true (by kernel_rfl)⟩) rfl 4 rfl Tryd.underlying4
    (fun ds hds => by match ds, hds with | [_], _ => rfl) (fun W args ds p hsh hL => opened enc W args ds p hsh)

theorem row_said : Rows.KeyPutsSaid :=
  OpenClaim.holds_of_wide 3 Tryd.f3 rfl rfl rfl rfl rfl rfl rfl ⟨rfl, rfl, rfl, rfl, rfl⟩ rfl rfl rfl rfl rfl (by kernel_rfl) Tryd.func3 (by kernel_rfl)
    (of_decide_eq_true (by kernel_rfl)) (by unfold Func.isWrapper; first | (rw [if_pos (by decide +kernel)]; kernel_rfl) | (rw [if_neg (by decide +kernel)]; exact ⟨rfl, rfl⟩))
    (fun os started H enc _ => lifted os started H enc)

theorem said : Rows.KeyPutsCardSaid :=
  Claim7.holds_tied_plain_at .later [] [.data, .pinned] true (true, "87c978da54aa7d62b9f7dbc4ff716a48af2b5ba8b3bc861d8d5581fb88b01145") false
    row_said (fun _ h => by cases h) (by kernel_rfl) (fun _ h => by cases h) keyPuts_row_tie rfl ⟨rfl, rfl⟩ (by kernel_rfl) rfl
    (fun f fn hf hfn => by
      obtain rfl : f = 3 := Option.some.inj ((show Tryd.prog.funcNamed "counterfoil/counterfoillaw08.KeyPuts" = some 3 by kernel_rfl).symm.trans hf) |>.symm
      obtain rfl : fn = Tryd.f3 := (Option.some.inj (Tryd.func3.symm.trans hfn)).symm
      exact ⟨by kernel_rfl, fun j t ht => by
        rw [Tryd.params3] at ht
        exact tied Tryd.params3.symm (by kernel_rfl) ht⟩)
    (by kernel_rfl)
#print axioms said
end Go.Proofs.YtclkpbokngamiaaDoor.KeyPuts
