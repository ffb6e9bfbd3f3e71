/- KeyBegins: the law returns true at every input. -/
import Derived.Test.YtclkpbokngamiaaDoorLiftD
import Derived.Test.YtclkpbokngamiaaDoorTie
import Derived.Test.YtclkpbokngamiaaDoorCards
import Derived.SevenTiedAt
import Derived.Stop.Joined
import Derived.Test.YtclkpbokngamiaaDoorKeySame
import Derived.Test.YtclkpbokngamiaaDoorKeySpec4
import Derived.Test.YtclkpbokngamiaaDoorKeyCut
import Derived.Test.YtclkpbokngamiaaDoorOpen
import Derived.Test.YtclkpbokngamiaaDoorKeyMax
import Derived.Test.YtclkpbokngamiaaDoorShelf
namespace Go.Proofs.YtclkpbokngamiaaDoor.KeyBegins
open Go.ChangeShapes Go.WideShapes Go.ChangeAt Go.RowKit Go.Proofs.YtclkpbokngamiaaDoor.By
set_option linter.unusedVariables false
-- witness .slice none 0 0
-- witness .slice none 0 0
/- KeyBegins: a row's key is the beginning of another row's key just if the row is the beginning of the other. No conditions beyond what the row lists. -/
open Go.Proofs.YtclkpbokngamiaaDoor.Dt
theorem begins_eq {a b : List V} (ha : errK a = 0) (hb : errK b = 0) (oa : ∀ v ∈ a, v.ok) (ob : ∀ v ∈ b, v.ok) :
    Lib.hasPrefix (allK b) (allK a) = (decide (a.length ≤ b.length) && decide (a = b.take a.length)) := by
  unfold Lib.hasPrefix
  rw [Bool.eq_iff_iff, List.isPrefixOf_iff_prefix, allK_begins (errK_zero.1 ha) (errK_zero.1 hb) oa ob, Bool.and_eq_true, decide_eq_true_eq, decide_eq_true_eq]
  constructor
  · intro h
    exact ⟨h.length_le, List.prefix_iff_eq_take.1 h⟩
  · intro h
    exact List.prefix_iff_eq_take.2 h.2
set_option maxRecDepth 100000 in
set_option maxHeartbeats 8000000 in
theorem walk (rv tv : Value) (a b : List V) (w : World) (hm : MaxAt w) (ha : VsAt w rv a) (hb : VsAt w tv b) (oa : ∀ v ∈ a, v.ok) (ob : ∀ v ∈ b, v.ok) (la : a.length ≤ 140737488351232) (lb : b.length ≤ 140737488351232) :
    Calls Tryd.prog 5 #[rv, tv] w fun e w' => e = .returned (.bool true) ∧ Below w.heap.size w w' := by
  obtain ⟨ar, cr, rfl⟩ := ha.shape
  obtain ⟨at', ct, rfl⟩ := hb.shape
  have HA := Lib.hid ha
  have HB := Lib.hid hb
  have OA := Lib.hid oa
  have OB := Lib.hid ob
  have LA := Lib.hid la
  have LB := Lib.hid lb
  have HM := Lib.hid hm
  clear ha hb oa ob la lb hm
  go_enter Tryd.func5, Tryd.ntmps5
  go_wp2_with fail
  refine (works w HM.out).mono ?_
  rintro e w1 ⟨rfl, hb1⟩
  have HB1 := Lib.hid hb1
  clear hb1
  go_wp2_with fail
  refine (greatK _ a w1 (HA.out.below HB1.out) LA.out).mono ?_
  rintro e w2 ⟨hr, hb2⟩
  have HB2 := Lib.hid (next HB1.out hb2)
  clear hb2
  rcases hr with rfl | ⟨rfl, h60⟩
  · go_wp2_with fail
    go_ret
    exact ⟨rfl, HB2.out⟩
  have H60 := Lib.hid h60
  clear h60
  go_wp2_with fail
  refine (greatK _ b w2 (HB.out.below HB2.out) LB.out).mono ?_
  rintro e w3 ⟨hr, hb3⟩
  have HB3 := Lib.hid (next HB2.out hb3)
  clear hb3
  rcases hr with rfl | ⟨rfl, h61⟩
  · go_wp2_with fail
    go_ret
    exact ⟨rfl, HB3.out⟩
  have H61 := Lib.hid h61
  clear h61
  obtain ⟨R, hR⟩ : ∃ R : List UInt8, R = (if errK a = 0 then allK a else []) := ⟨_, rfl⟩
  obtain ⟨S, hS⟩ : ∃ S : List UInt8, S = (if errK b = 0 then allK b else []) := ⟨_, rfl⟩
  obtain ⟨E, hE⟩ : ∃ E : Nat, E = errK a := ⟨_, rfl⟩
  obtain ⟨F, hF⟩ : ∃ F : Nat, F = errK b := ⟨_, rfl⟩
  have hput := putW _ a w3 (HM.out.later HB3.out) (HA.out.below HB3.out) OA.out (by have := H60.out; omega)
  rw [← hR, ← hE] at hput
  have HPUT := Lib.hid hput
  have HR := Lib.hid hR
  have HS := Lib.hid hS
  have HE := Lib.hid hE
  have HF := Lib.hid hF
  clear hput hR hS hE hF
  go_wp2_with fail
  refine HPUT.out.mono ?_
  clear HPUT
  rintro e w4 ⟨rfl, hb4⟩
  have HB4 := Lib.hid (next HB3.out hb4)
  clear hb4
  have hput := putW _ b w4 (HM.out.later HB4.out) (HB.out.below HB4.out) OB.out (by have := H61.out; omega)
  rw [← HS.out, ← HF.out] at hput
  have HPUT := Lib.hid hput
  clear hput
  go_wp2_with fail
  refine HPUT.out.mono ?_
  clear HPUT
  rintro e w5 ⟨rfl, hb5⟩
  have HB5 := Lib.hid (next HB4.out hb5)
  clear hb5
  by_cases e0 : E = 0
  · by_cases f0 : F = 0
    · have c1 : (((E : Nat) : Int) != 0) = false := by rw [e0]; rfl
      have c2 : (((F : Nat) : Int) != 0) = false := by rw [f0]; rfl
      have HCM : Hid (Lib.hasPrefix S R = (decide (a.length ≤ b.length) && decide (a = b.take a.length))) := Lib.hid (by
        rw [HR.out, HS.out, if_pos (show errK a = 0 by rw [← HE.out]; exact e0), if_pos (show errK b = 0 by rw [← HF.out]; exact f0)]
        exact begins_eq (by rw [← HE.out]; exact e0) (by rw [← HF.out]; exact f0) OA.out OB.out)
      clear e0 f0
      go_wp2_with fail
      refine (Tryd.strings_HasPrefix ⟨S.toArray⟩ ⟨R.toArray⟩ w5).mono ?_
      rintro e w6 ⟨rfl, rfl⟩
      have hcm : Lib.hasPrefix (ByteArray.mk S.toArray).data.toList (ByteArray.mk R.toArray).data.toList = (decide (a.length ≤ b.length) && decide (a = b.take a.length)) := HCM.out
      rw [hcm]
      clear hcm
      by_cases hl : a.length ≤ b.length
      · have il : ((a.length : Int) ≤ (b.length : Int)) := by omega
        have hmin : min (a.length : Int) (b.length : Int) = (a.length : Int) := by omega
        have hcap := HB.out.cap
        rw [decide_eq_true hl, Bool.true_and]
        have hsame := sameW _ _ a (b.take a.length) w6 (HA.out.below HB5.out) (VsAt.cut (HB.out.below HB5.out) hl) LA.out (by have := LA.out; rw [List.length_take]; omega)
        generalize decide (a = b.take a.length) = T at *
        go_wp2_with fail
        refine hsame.mono ?_
        rintro e w7 ⟨rfl, hb7⟩
        have HB7 := Lib.hid (next HB5.out hb7)
        clear hb7 hsame
        go_wp2_with fail
        go_ret
        exact ⟨rfl, HB7.out⟩
      · have il : ¬ ((a.length : Int) ≤ (b.length : Int)) := by omega
        rw [decide_eq_false hl, Bool.false_and]
        go_wp2_with fail
        go_ret
        exact ⟨rfl, HB5.out⟩
    · have c1 : (((E : Nat) : Int) != 0) = false := by rw [e0]; rfl
      have c2 : (((F : Nat) : Int) != 0) = true := by simp; omega
      clear e0 f0
      go_wp2_with fail
      go_ret
      exact ⟨rfl, HB5.out⟩
  · have c1 : (((E : Nat) : Int) != 0) = true := by simp; omega
    clear e0
    go_wp2_with fail
    go_ret
    exact ⟨rfl, HB5.out⟩

theorem opened {H : Type} (enc : TypeId × Value → H) (W : World) (args : Array Value) (ds : List (DataW H)) (p : List MemPlace) (hsh : W.ShapedOpen Tryd.prog) :
    Lift.Owes enc Tryd.prog 5 Tryd.f5.params.toList W args ds p := by
  intro hA hval hsz _
  rw [Tryd.params5] at hA hval hsz
  obtain ⟨v0, vs0, d0, ds0, p0, q0, hargs, rfl, rfl, h0, r0⟩ := trodAll_cons hA
  obtain ⟨v1, vs1, d1, ds1, p1, q1, rfl, rfl, rfl, h1, r1⟩ := trodAll_cons r0
  obtain ⟨rfl, rfl, rfl⟩ := trodAll_nil r1
  obtain rfl : args = #[v0, v1] := by cases args; simp_all
  obtain ⟨base0, hv0⟩ := hval 0 _ v0 rfl rfl
  obtain ⟨base1, hv1⟩ := hval 1 _ v1 rfl rfl
  obtain ⟨A, hrA, hoA, hlA⟩ := arg_Vs vT (by kernel_rfl) hv0 h0 (lim_arg hsz (j := 0) rfl rfl)
  obtain ⟨B, hrB, hoB, hlB⟩ := arg_Vs vT (by kernel_rfl) hv1 h1 (lim_arg hsz (j := 1) rfl rfl)
  exact walk v0 v1 A B W (maxAt hsh) hrA hrB hoA hoB (by omega) (by omega)

theorem own : ownKnob Tryd.prog.godebug = none := by kernel_rfl
theorem laid : laidOutB Tryd.prog = true := by kernel_rfl
def laidD : List (String × DataW Unit) := [("unicode/utf8.acceptRanges", Rows.laid_unicode_utf8_acceptRanges), ("unicode/utf8.first", Rows.laid_unicode_utf8_first)]
theorem tied {ps qs : Array TypeId} {j : Nat} {t : TypeId} (_ : ps = qs) (hall : (ps.all fun u => !Tryd.prog.wantsStandIn u) = true) (ht : ps[j]? = some t) : Tryd.prog.wantsStandIn t = false := by
  obtain ⟨hj, rfl⟩ := Array.getElem?_eq_some_iff.1 ht
  have := Array.all_eq_true.1 hall j hj
  simpa using this

set_option maxRecDepth 100000 in
theorem lifted (os : Os) (started : os.Started) (H : Type) (enc : TypeId × Value → H) :
    ReturnsInHanded {} Tryd.checked os 5 .any (fun w args => (Rows.keyBeginsSpec.pre enc Tryd.prog Tryd.f5 [] false w args ∧ laidMetH Tryd.prog laidD w) ∧ sizedMet enc Tryd.prog Tryd.f5 (OpenSpec.ofChange Rows.keyBeginsSpec) false w args)
      (Rows.keyBeginsSpec.post enc Tryd.prog Tryd.f5 false true false false) := by
  refine Lift.liftedD (C := Tryd.checked) (X := fun w _ => laidMetH Tryd.prog laidD w) (fun _ _ _ hh h => h.of_heap hh) own started (by kernel_rfl) Tryd.func5
    (ChangeSpec.witness_shaped (enc := enc) (C := Tryd.checked) (os := os) (X := fun w _ => laidMetH Tryd.prog laidD w) false (World.laidAll Tryd.prog os laidD) #[.slice none 0 0, .slice none 0 0] 8 (World.laidAll_os _ _ _)
      (World.shaped_of_ZipB (by kernel_rfl) (by kernel_rfl)) (by kernel_rfl) (by kernel_rfl) (by kernel_rfl)
      (by rw [MakeChecks.laidMetH_plain _ _ _ (by kernel_rfl)]; exact laidMet_laidAll _ (by kernel_rfl) (by kernel_rfl)))
    laid (by rw [Tryd.params5]; intro t ht; simp at ht; rcases ht with rfl | rfl <;> exact ⟨by kernel_rfl, of_decide_eq_true (by kernel_rfl)⟩) rfl 4 rfl Tryd.underlying4
    (fun ds hds => by match ds, hds with | [_, _], _ => rfl) (fun W args ds p hsh hL => opened enc W args ds p hsh)

theorem row_said : Rows.KeyBeginsSaid :=
  OpenClaim.holds_of_wide 5 Tryd.f5 rfl rfl rfl rfl rfl rfl rfl ⟨rfl, rfl, rfl, rfl, rfl⟩ rfl rfl rfl rfl rfl (by kernel_rfl) Tryd.func5 (by kernel_rfl)
    (of_decide_eq_true (by kernel_rfl)) (by unfold Func.isWrapper; first | (rw [if_pos (by decide +kernel)]; kernel_rfl) | (rw [if_neg (by decide +kernel)]; exact ⟨rfl, rfl⟩))
    (fun os started H enc _ => lifted os started H enc)

theorem said : Rows.KeyBeginsCardSaid :=
  Claim7.holds_tied_plain_at .later [] [.data, .pinned] true (true, "87c978da54aa7d62b9f7dbc4ff716a48af2b5ba8b3bc861d8d5581fb88b01145") false
    row_said (fun _ h => by cases h) (by kernel_rfl) (fun _ h => by cases h) keyBegins_row_tie rfl ⟨rfl, rfl⟩ (by kernel_rfl) rfl
    (fun f fn hf hfn => by
      obtain rfl : f = 5 := Option.some.inj ((show Tryd.prog.funcNamed "counterfoil/counterfoillaw08.KeyBegins" = some 5 by kernel_rfl).symm.trans hf) |>.symm
      obtain rfl : fn = Tryd.f5 := (Option.some.inj (Tryd.func5.symm.trans hfn)).symm
      exact ⟨by kernel_rfl, fun j t ht => by
        rw [Tryd.params5] at ht
        exact tied Tryd.params5.symm (by kernel_rfl) ht⟩)
    (by kernel_rfl)
#print axioms said
end Go.Proofs.YtclkpbokngamiaaDoor.KeyBegins
