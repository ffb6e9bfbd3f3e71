/- KeyTakes: any bytes: the row whose key they are, and where the first value ends. No conditions beyond what the row lists. -/
import Derived.Test.YtclkpbokngamiaaDoorLiftD
import Derived.Test.YtclkpbokngamiaaDoorTie
import Derived.Test.YtclkpbokngamiaaDoorCards
import Derived.SevenTiedAt
import Derived.Stop.Joined
import Derived.Test.YtclkpbokngamiaaDoorKeyRefTake
import Derived.Test.YtclkpbokngamiaaDoorKeySame
import Derived.Test.YtclkpbokngamiaaDoorKeyLong
import Derived.Test.YtclkpbokngamiaaDoorKeyMax
namespace Go.Proofs.YtclkpbokngamiaaDoor.KeyTakes
open Go.ChangeShapes Go.WideShapes Go.ChangeAt Go.RowKit Go.Proofs.YtclkpbokngamiaaDoor.By
set_option linter.unusedVariables false
open Go.Proofs.YtclkpbokngamiaaDoor.Dt
/-- What the two takers hand back: the same row, or none. -/
theorem same_take {T : Option (List V)} {wa : World} {ea : Ending}
    (ha : ∃ v, (∃ vs, T = some vs ∧ ea = .returned (.tuple #[v, .int .i64 0]) ∧ VsAt wa v vs ∧ vs.length ≤ 8192) ∨ (T = none ∧ ea = .returned (.tuple #[.slice none 0 0, .int .i64 7]))) :
    ∃ v vs k, ea = .returned (.tuple #[v, .int .i64 k]) ∧ VsAt wa v vs ∧ vs.length ≤ 8192 ∧ vs = T.getD [] ∧ k = if T.isSome then 0 else 7 := by
  obtain ⟨v, ⟨vs, rfl, he, hv, hl⟩ | ⟨rfl, he⟩⟩ := ha
  · exact ⟨v, vs, 0, he, hv, hl, rfl, rfl⟩
  · exact ⟨.slice none 0 0, [], 7, he, SlAt.nil _ _ _, by simp, rfl, rfl⟩
theorem first_kind {F : Option (V × Nat)} {ea : Ending} (h : (∃ v n, F = some (v, n) ∧ ea = .returned (.tuple #[.int .i64 (n : Int), .int .i64 0])) ∨ (F = none ∧ ea = .returned (.tuple #[.int .i64 0, .int .i64 7]))) :
    ∃ n : Int, ∃ k : Int, ea = .returned (.tuple #[.int .i64 n, .int .i64 k]) ∧ n = ((F.map fun p => (p.2 : Int)).getD 0) ∧ k = if F.isSome then 0 else 7 := by
  rcases h with ⟨v, n, rfl, he⟩ | ⟨rfl, he⟩
  · exact ⟨_, _, he, rfl, rfl⟩
  · exact ⟨_, _, he, rfl, rfl⟩
theorem ref_kind {s : List UInt8} {v : V} {n : Int} {ok : Bool} (h : RefIs s v n ok) : n = (((firstK s).map fun p => (p.2 : Int)).getD 0) ∧ ok = (firstK s).isSome := by
  rcases h with ⟨h1, h2, h3⟩ | ⟨h1, h2, h3⟩
  · rw [h1]
    exact ⟨by show n = ((n.toNat : Nat) : Int); omega, h3⟩
  · rw [h1]
    exact ⟨h2, h3⟩
set_option maxRecDepth 100000 in
set_option maxHeartbeats 8000000 in
theorem walk (s : ByteArray) (w : World) (hm : MaxAt w) (hs : s.size ≤ 140737488351232) :
    Calls Tryd.prog 6 #[.string s] w fun e w' => e = .returned (.bool true) ∧ Below w.heap.size w w' := by
  have HM := Lib.hid hm
  clear hm hs
  go_enter Tryd.func6, Tryd.ntmps6
  go_wp2_with fail
  refine (works w HM.out).mono ?_
  rintro e w1 ⟨rfl, hb1⟩
  have HB1 := Lib.hid hb1
  clear hb1
  go_wp2_with fail
  refine (longK s w1).mono ?_
  rintro e w2 ⟨hr, hb2⟩
  have HB2 := Lib.hid (next HB1.out hb2)
  clear hb2
  rcases hr with rfl | ⟨rfl, h60⟩
  · go_wp2_with fail
    go_ret
    exact ⟨rfl, HB2.out⟩
  have H60 := Lib.hid h60
  clear h60
  obtain ⟨T, hT⟩ : ∃ T, T = takeK s.data.toList := ⟨_, rfl⟩
  have HT := Lib.hid hT
  clear hT
  go_wp2_with fail
  refine (takeW s w2 (by have := H60.out; omega)).mono ?_
  rintro e w3 ⟨ht, hb3⟩
  have HB3 := Lib.hid (next HB2.out hb3)
  clear hb3
  rw [← HT.out] at ht
  obtain ⟨va, a, ka, rfl, hva, hla, hea, hka⟩ := same_take (T := T) (by
    obtain ⟨v, ⟨vs, h1, h2, h3, h4⟩ | h⟩ := ht
    · exact ⟨v, .inl ⟨vs, h1, h2, h3, by have := H60.out; omega⟩⟩
    · exact ⟨v, .inr h⟩)
  clear ht
  obtain ⟨aa, ca, rfl⟩ := hva.shape
  have HVA := Lib.hid hva
  have HLA := Lib.hid hla
  have HEA := Lib.hid hea
  have HKA := Lib.hid hka
  clear hva hla hea hka
  go_wp2_with fail
  refine (refTakeW s w3 (by have := H60.out; omega)).mono ?_
  rintro e w4 ⟨ht, hb4⟩
  have HB4 := Lib.hid (next HB3.out hb4)
  have HVA4 := Lib.hid (HVA.out.below hb4)
  clear hb4 HVA
  rw [← HT.out] at ht
  obtain ⟨vb, b, kb, rfl, hvb, hlb, heb, hkb⟩ := same_take (T := T) (by
    obtain ⟨v, ⟨vs, h1, h2, h3, h4⟩ | h⟩ := ht
    · exact ⟨v, .inl ⟨vs, h1, h2, h3, by have := H60.out; omega⟩⟩
    · exact ⟨v, .inr h⟩)
  clear ht
  obtain rfl : b = a := heb.trans HEA.out.symm
  obtain rfl : kb = ka := hkb.trans HKA.out.symm
  obtain ⟨ab, cb, rfl⟩ := hvb.shape
  have HVB := Lib.hid hvb
  clear hvb hlb heb hkb HEA HKA HT
  obtain ⟨F, hF⟩ : ∃ F, F = firstK s.data.toList := ⟨_, rfl⟩
  have HF := Lib.hid hF
  clear hF
  go_wp2_with fail
  refine (keyFirstW s w4 (by have := H60.out; omega)).mono ?_
  rintro e w5 ⟨ht, hb5⟩
  have HB5 := Lib.hid (next HB4.out hb5)
  have HVA5 := Lib.hid (HVA4.out.below hb5)
  have HVB5 := Lib.hid (HVB.out.below hb5)
  clear hb5 HVA4 HVB
  rw [← HF.out] at ht
  obtain ⟨n, k, rfl, hn, hk⟩ := first_kind ht
  clear ht
  have HN := Lib.hid hn
  have HK := Lib.hid hk
  clear hn hk
  go_wp2_with fail
  refine (refFirstW s w5 (by have := H60.out; omega)).mono ?_
  rintro e w6 ⟨⟨v, n2, ok, rfl, hr⟩, hb6⟩
  obtain ⟨h1, h2⟩ := ref_kind hr
  rw [← HF.out] at h1 h2
  obtain rfl : n2 = n := h1.trans HN.out.symm
  have hkk : k = if ok = true then 0 else 7 := by rw [HK.out, h2]
  have hb7 := hb6.alloc hb6.size (.cells #[.int .u8 (v.k : Int), .int .i64 v.n, .string v.s] 39)
  have HB7 := Lib.hid (next HB5.out hb7)
  have HVA7 := Lib.hid (HVA5.out.below hb7)
  have HVB7 := Lib.hid (HVB5.out.below hb7)
  clear hb6 hb7 hr h1 h2 HVA5 HVB5 HN HK HF
  have hsame := sameW _ _ b b _ HVA7.out HVB7.out (by have := HLA.out; omega) (by have := HLA.out; omega)
  rw [decide_eq_true rfl] at hsame
  have HSM := Lib.hid hsame
  clear hsame
  cases ok
  · obtain rfl : k = 7 := hkk
    go_wp2_with fail
    refine HSM.out.mono ?_
    rintro e w8 ⟨rfl, hb8⟩
    have HB8 := Lib.hid (next HB7.out hb8)
    clear hb8 HSM
    go_wp2_with fail
    go_ret
    exact ⟨rfl, HB8.out⟩
  · obtain rfl : k = 0 := hkk
    go_wp2_with fail
    refine HSM.out.mono ?_
    rintro e w8 ⟨rfl, hb8⟩
    have HB8 := Lib.hid (next HB7.out hb8)
    clear hb8 HSM
    go_wp2_with fail
    go_ret
    exact ⟨rfl, HB8.out⟩

theorem own : ownKnob Tryd.prog.godebug = none := by kernel_rfl
theorem laid : laidOutB Tryd.prog = true := by kernel_rfl
def laidD : List (String × DataW Unit) := [("unicode/utf8.acceptRanges", Rows.laid_unicode_utf8_acceptRanges), ("unicode/utf8.first", Rows.laid_unicode_utf8_first)]
theorem tied {ps qs : Array TypeId} {j : Nat} {t : TypeId} (_ : ps = qs) (hall : (ps.all fun u => !Tryd.prog.wantsStandIn u) = true) (ht : ps[j]? = some t) : Tryd.prog.wantsStandIn t = false := by
  obtain ⟨hj, rfl⟩ := Array.getElem?_eq_some_iff.1 ht
  have := Array.all_eq_true.1 hall j hj
  simpa using this

theorem opened {H : Type} (enc : TypeId × Value → H) (W : World) (args : Array Value) (ds : List (DataW H)) (p : List MemPlace) (hsh : W.ShapedOpen Tryd.prog) :
    Lift.Owes enc Tryd.prog 6 Tryd.f6.params.toList W args ds p := by
  intro hA hval hsz _
  rw [Tryd.params6] at hA hval hsz
  obtain ⟨v0, vs0, d0, ds0, p0, q0, hargs, rfl, rfl, h0, r0⟩ := trodAll_cons hA
  obtain ⟨rfl, rfl, rfl⟩ := trodAll_nil r0
  obtain rfl : args = #[v0] := by cases args; simp_all
  obtain ⟨base0, hv0⟩ := hval 0 _ v0 rfl rfl
  obtain ⟨s0, rfl, rfl, rfl, ws0⟩ := ChangeMaps.open_string Tryd.underlying9 hv0 h0
  have z0 := sized_string hsz (j := 0) rfl rfl
  simp only [reachBytes, Array.length_toList] at z0
  exact walk s0 W (maxAt hsh) z0

set_option maxRecDepth 100000 in
theorem lifted (os : Os) (started : os.Started) (H : Type) (enc : TypeId × Value → H) :
    ReturnsInHanded {} Tryd.checked os 6 .any (fun w args => (Rows.keyTakesSpec.pre enc Tryd.prog Tryd.f6 [] false w args ∧ laidMetH Tryd.prog laidD w) ∧ sizedMet enc Tryd.prog Tryd.f6 (OpenSpec.ofChange Rows.keyTakesSpec) false w args)
      (Rows.keyTakesSpec.post enc Tryd.prog Tryd.f6 false true false false) := by
  refine Lift.liftedD (C := Tryd.checked) (X := fun w _ => laidMetH Tryd.prog laidD w) (fun _ _ _ hh h => h.of_heap hh) own started (by kernel_rfl) Tryd.func6
    (ChangeSpec.witness_shaped (enc := enc) (C := Tryd.checked) (os := os) (X := fun w _ => laidMetH Tryd.prog laidD w) false (World.laidAll Tryd.prog os laidD) #[.string ByteArray.empty] 8 (World.laidAll_os _ _ _)
      (World.shaped_of_ZipB (by kernel_rfl) (by kernel_rfl)) (by kernel_rfl) (by kernel_rfl) (by kernel_rfl)
      (by rw [MakeChecks.laidMetH_plain _ _ _ (by kernel_rfl)]; exact laidMet_laidAll _ (by kernel_rfl) (by kernel_rfl)))
    laid (by rw [Tryd.params6]; intro t ht; simp at ht; rcases ht with rfl <;> exact ⟨by kernel_rfl, of_decide_eq_true (by kernel_rfl)⟩) rfl 4 rfl Tryd.underlying4
    (fun ds hds => by match ds, hds with | [_], _ => rfl) (fun W args ds p hsh hL => opened enc W args ds p hsh)

theorem row_said : Rows.KeyTakesSaid :=
  OpenClaim.holds_of_wide 6 Tryd.f6 rfl rfl rfl rfl rfl rfl rfl ⟨rfl, rfl, rfl, rfl, rfl⟩ rfl rfl rfl rfl rfl (by kernel_rfl) Tryd.func6 (by kernel_rfl)
    (of_decide_eq_true (by kernel_rfl)) (by unfold Func.isWrapper; first | (rw [if_pos (by decide +kernel)]; kernel_rfl) | (rw [if_neg (by decide +kernel)]; exact ⟨rfl, rfl⟩))
    (fun os started H enc _ => lifted os started H enc)

theorem said : Rows.KeyTakesCardSaid :=
  Claim7.holds_tied_plain_at .later [] [.data, .pinned] true (true, "87c978da54aa7d62b9f7dbc4ff716a48af2b5ba8b3bc861d8d5581fb88b01145") false
    row_said (fun _ h => by cases h) (by kernel_rfl) (fun _ h => by cases h) keyTakes_row_tie rfl ⟨rfl, rfl⟩ (by kernel_rfl) rfl
    (fun f fn hf hfn => by
      obtain rfl : f = 6 := Option.some.inj ((show Tryd.prog.funcNamed "counterfoil/counterfoillaw08.KeyTakes" = some 6 by kernel_rfl).symm.trans hf) |>.symm
      obtain rfl : fn = Tryd.f6 := (Option.some.inj (Tryd.func6.symm.trans hfn)).symm
      exact ⟨by kernel_rfl, fun j t ht => by
        rw [Tryd.params6] at ht
        exact tied Tryd.params6.symm (by kernel_rfl) ht⟩)
    (by kernel_rfl)
#print axioms said
end Go.Proofs.YtclkpbokngamiaaDoor.KeyTakes
