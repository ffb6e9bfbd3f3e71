/- KeyNext: a text begins with another one just if it is not below that, and below what is next to it. No conditions beyond what the row lists. -/
import Derived.Test.YtclkpbokngamiaaDoorLiftD
import Derived.Test.YtclkpbokngamiaaDoorTie
import Derived.Test.YtclkpbokngamiaaDoorCards
import Derived.SevenTiedAt
import Derived.Stop.Joined
import Derived.Test.YtclkpbokngamiaaDoorKeyNextW
import Derived.Test.YtclkpbokngamiaaDoorKeyLong
import Derived.Test.YtclkpbokngamiaaDoorKeyMax
import Derived.Test.YtclkpbokngamiaaDoorShelf
namespace Go.Proofs.YtclkpbokngamiaaDoor.KeyNext
open Go.ChangeShapes Go.WideShapes Go.ChangeAt Go.RowKit Go.Proofs.YtclkpbokngamiaaDoor.By
set_option linter.unusedVariables false
open Go.Proofs.YtclkpbokngamiaaDoor.Dt
theorem less_asymm : ∀ {a b : List UInt8}, Op.bytesLess a b = true → Op.bytesLess b a = false ∧ (b == a) = false
  | [], [], h => by cases h
  | [], _ :: _, _ => ⟨rfl, rfl⟩
  | _ :: _, [], h => by cases h
  | x :: a, y :: b, h => by
    rcases tri x y with hl | rfl | hl
    · refine ⟨less_gt hl _ _, ?_⟩
      have : y ≠ x := fun e => by subst e; exact UInt8.lt_irrefl _ hl
      simp [this]
    · rw [less_eq] at h
      obtain ⟨h1, h2⟩ := less_asymm h
      exact ⟨by rw [less_eq]; exact h1, by simpa using h2⟩
    · rw [less_gt hl] at h; cases h
set_option maxRecDepth 100000 in
set_option maxHeartbeats 8000000 in
theorem walk (s t : ByteArray) (w : World) (hm : MaxAt w) (hs : s.size ≤ 140737488351232) (ht : t.size ≤ 140737488351232) :
    Calls Tryd.prog 8 #[.string s, .string t] w fun e w' => e = .returned (.bool true) ∧ Below w.heap.size w w' := by
  have HM := Lib.hid hm
  clear hm hs ht
  go_enter Tryd.func8, Tryd.ntmps8
  go_wp2_with fail
  refine (works w HM.out).mono ?_
  rintro e w1 ⟨rfl, hb1⟩
  have HB1 := Lib.hid hb1
  clear hb1
  go_wp2_with fail
  refine (longK s w1).mono ?_
  rintro e w2 ⟨hr, hb2⟩
  have HB2 := Lib.hid (next HB1.out hb2)
  clear hb2
  rcases hr with rfl | ⟨rfl, h60⟩
  · go_wp2_with fail
    go_ret
    exact ⟨rfl, HB2.out⟩
  have H60 := Lib.hid h60
  clear h60
  go_wp2_with fail
  refine (longK t w2).mono ?_
  rintro e w3 ⟨hr, hb3⟩
  have HB3 := Lib.hid (next HB2.out hb3)
  clear hb3
  rcases hr with rfl | ⟨rfl, h61⟩
  · go_wp2_with fail
    go_ret
    exact ⟨rfl, HB3.out⟩
  have H61 := Lib.hid h61
  clear h61
  go_wp2_with fail
  refine (nextW s w3 (by have := H60.out; omega)).mono ?_
  rintro e w4 ⟨hr, hb4⟩
  have HB4 := Lib.hid (next HB3.out hb4)
  clear hb4
  obtain ⟨n1, n2⟩ := next_law s.data.toList t.data.toList
  rcases hr with ⟨hn, rfl⟩ | ⟨n, hn, rfl⟩
  · have HC : Hid ((Lib.countByte s.data.toList 255 : Int) = (s.size : Int)) := Lib.hid (by
      have h1 : s.data.toList.length = s.size := Array.length_toList
      unfold Lib.countByte
      rw [nextK_all hn, h1])
    have HP : Hid (Lib.hasPrefix t.data.toList s.data.toList = !Op.bytesLess t.toList s.toList) := Lib.hid (by rw [ByteArray.toList_eq, ByteArray.toList_eq]; exact n1 hn)
    clear n1 n2 hn
    go_wp2_with fail
    refine (Tryd.strings_Count_one s 255 w4).mono ?_
    rintro e w5 ⟨rfl, rfl⟩
    rw [HC.out]
    go_wp2_with fail
    refine (Tryd.strings_HasPrefix t s w5).mono ?_
    rintro e w6 ⟨rfl, rfl⟩
    rw [HP.out]
    obtain ⟨X, hX⟩ : ∃ X, Op.bytesLess t.toList s.toList = X := ⟨_, rfl⟩
    rw [hX]
    go_wp2_with fail
    go_ret
    exact ⟨by cases X <;> rfl, HB4.out⟩
  · obtain ⟨a1, a2⟩ := n2 n hn
    have HP : Hid (Lib.hasPrefix t.data.toList s.data.toList = (!Op.bytesLess t.toList s.toList && Op.bytesLess t.toList n)) := Lib.hid (by rw [ByteArray.toList_eq, ByteArray.toList_eq]; exact a2)
    obtain ⟨b1, b2⟩ := less_asymm (show Op.bytesLess s.toList n = true by rw [ByteArray.toList_eq]; exact a1)
    clear n1 n2 hn a1 a2
    obtain ⟨X, hX⟩ : ∃ X, Op.bytesLess t.toList s.toList = X := ⟨_, rfl⟩
    obtain ⟨Y, hY⟩ : ∃ Y, Op.bytesLess t.toList n = Y := ⟨_, rfl⟩
    rw [hX, hY] at HP
    go_wp2_with fail
    refine (Tryd.strings_HasPrefix t s w4).mono ?_
    rintro e w6 ⟨rfl, rfl⟩
    rw [HP.out]
    cases X
    · cases Y
      · go_wp2_with fail
        go_ret
        exact ⟨rfl, HB4.out⟩
      · go_wp2_with fail
        go_ret
        exact ⟨rfl, HB4.out⟩
    · go_wp2_with fail
      go_ret
      exact ⟨rfl, HB4.out⟩

theorem own : ownKnob Tryd.prog.godebug = none := by kernel_rfl
theorem laid : laidOutB Tryd.prog = true := by kernel_rfl
def laidD : List (String × DataW Unit) := [("unicode/utf8.acceptRanges", Rows.laid_unicode_utf8_acceptRanges), ("unicode/utf8.first", Rows.laid_unicode_utf8_first)]
theorem tied {ps qs : Array TypeId} {j : Nat} {t : TypeId} (_ : ps = qs) (hall : (ps.all fun u => !Tryd.prog.wantsStandIn u) = true) (ht : ps[j]? = some t) : Tryd.prog.wantsStandIn t = false := by
  obtain ⟨hj, rfl⟩ := Array.getElem?_eq_some_iff.1 ht
  have := Array.all_eq_true.1 hall j hj
  simpa using this

theorem opened {H : Type} (enc : TypeId × Value → H) (W : World) (args : Array Value) (ds : List (DataW H)) (p : List MemPlace) (hsh : W.ShapedOpen Tryd.prog) :
    Lift.Owes enc Tryd.prog 8 Tryd.f8.params.toList W args ds p := by
  intro hA hval hsz _
  rw [Tryd.params8] at hA hval hsz
  obtain ⟨v0, vs0, d0, ds0, p0, q0, hargs, rfl, rfl, h0, r0⟩ := trodAll_cons hA
  obtain ⟨v1, vs1, d1, ds1, p1, q1, rfl, rfl, rfl, h1, r1⟩ := trodAll_cons r0
  obtain ⟨rfl, rfl, rfl⟩ := trodAll_nil r1
  obtain rfl : args = #[v0, v1] := by cases args; simp_all
  obtain ⟨base0, hv0⟩ := hval 0 _ v0 rfl rfl
  obtain ⟨s0, rfl, rfl, rfl, ws0⟩ := ChangeMaps.open_string Tryd.underlying9 hv0 h0
  have z0 := sized_string hsz (j := 0) rfl rfl
  simp only [reachBytes, Array.length_toList] at z0
  obtain ⟨base1, hv1⟩ := hval 1 _ v1 rfl rfl
  obtain ⟨s1, rfl, rfl, rfl, ws1⟩ := ChangeMaps.open_string Tryd.underlying9 hv1 h1
  have z1 := sized_string hsz (j := 1) rfl rfl
  simp only [reachBytes, Array.length_toList] at z1
  exact walk s0 s1 W (maxAt hsh) z0 z1

set_option maxRecDepth 100000 in
theorem lifted (os : Os) (started : os.Started) (H : Type) (enc : TypeId × Value → H) :
    ReturnsInHanded {} Tryd.checked os 8 .any (fun w args => (Rows.keyNextSpec.pre enc Tryd.prog Tryd.f8 [] false w args ∧ laidMetH Tryd.prog laidD w) ∧ sizedMet enc Tryd.prog Tryd.f8 (OpenSpec.ofChange Rows.keyNextSpec) false w args)
      (Rows.keyNextSpec.post enc Tryd.prog Tryd.f8 false true false false) := by
  refine Lift.liftedD (C := Tryd.checked) (X := fun w _ => laidMetH Tryd.prog laidD w) (fun _ _ _ hh h => h.of_heap hh) own started (by kernel_rfl) Tryd.func8
    (ChangeSpec.witness_shaped (enc := enc) (C := Tryd.checked) (os := os) (X := fun w _ => laidMetH Tryd.prog laidD w) false (World.laidAll Tryd.prog os laidD) #[.string ByteArray.empty, .string ByteArray.empty] 8 (World.laidAll_os _ _ _)
      (World.shaped_of_ZipB (by kernel_rfl) (by kernel_rfl)) (by kernel_rfl) (by kernel_rfl) (by kernel_rfl)
      (by rw [MakeChecks.laidMetH_plain _ _ _ (by kernel_rfl)]; exact laidMet_laidAll _ (by kernel_rfl) (by kernel_rfl)))
    laid (by rw [Tryd.params8]; intro t ht; simp at ht; rcases ht with rfl | rfl <;> exact ⟨by kernel_rfl, of_decide_eq_true (by kernel_rfl)⟩) rfl 4 rfl Tryd.underlying4
    (fun ds hds => by match ds, hds with | [_, _], _ => rfl) (fun W args ds p hsh hL => opened enc W args ds p hsh)

theorem row_said : Rows.KeyNextSaid :=
  OpenClaim.holds_of_wide 8 Tryd.f8 rfl rfl rfl rfl rfl rfl rfl ⟨rfl, rfl, rfl, rfl, rfl⟩ rfl rfl rfl rfl rfl (by kernel_rfl) Tryd.func8 (by kernel_rfl)
    (of_decide_eq_true (by kernel_rfl)) (by unfold Func.isWrapper; first | (rw [if_pos (by decide +kernel)]; kernel_rfl) | (rw [if_neg (by decide +kernel)]; exact ⟨rfl, rfl⟩))
    (fun os started H enc _ => lifted os started H enc)

theorem said : Rows.KeyNextCardSaid :=
  Claim7.holds_tied_plain_at .later [] [.data, .pinned] true (true, "87c978da54aa7d62b9f7dbc4ff716a48af2b5ba8b3bc861d8d5581fb88b01145") false
    row_said (fun _ h => by cases h) (by kernel_rfl) (fun _ h => by cases h) keyNext_row_tie rfl ⟨rfl, rfl⟩ (by kernel_rfl) rfl
    (fun f fn hf hfn => by
      obtain rfl : f = 8 := Option.some.inj ((show Tryd.prog.funcNamed "counterfoil/counterfoillaw08.KeyNext" = some 8 by kernel_rfl).symm.trans hf) |>.symm
      obtain rfl : fn = Tryd.f8 := (Option.some.inj (Tryd.func8.symm.trans hfn)).symm
      exact ⟨by kernel_rfl, fun j t ht => by
        rw [Tryd.params8] at ht
        exact tied Tryd.params8.symm (by kernel_rfl) ht⟩)
    (by kernel_rfl)
#print axioms said
end Go.Proofs.YtclkpbokngamiaaDoor.KeyNext
