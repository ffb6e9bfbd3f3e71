/- LexWrites: the law returns true at every input. -/
import Derived.Test.YtghfaeapgghhlaaGreatDoorLiftD
import Derived.Test.YtghfaeapgghhlaaGreatDoorTie
import Derived.Test.YtghfaeapgghhlaaGreatDoorCards
import Derived.SevenTiedAt
import Derived.Stop.Joined
import Derived.Test.YtghfaeapgghhlaaGreatDoorLexWorks
import Derived.Test.YtghfaeapgghhlaaGreatDoorLexLaid
import Derived.Test.YtghfaeapgghhlaaGreatDoorLexRPut2
import Derived.Test.YtghfaeapgghhlaaGreatDoorOpen
namespace Go.Proofs.YtghfaeapgghhlaaGreatDoor.LexWrites
open Go.ChangeShapes Go.WideShapes Go.ChangeAt Go.RowKit Go.Proofs.YtghfaeapgghhlaaGreatDoor.By
set_option linter.unusedVariables false
-- laid lx9
/- LexWrites: any tokens are written as the reference writes them. No conditions beyond what the row lists. -/
open Go.Proofs.YtghfaeapgghhlaaGreatDoor.Dt
set_option maxRecDepth 100000 in
set_option maxHeartbeats 16000000 in
theorem walk (lv : Value) (l : List Tk) (w : World) (hw : LX w) (ha : TksAt w lv l) (ho : ∀ t ∈ l, t.ok) (hl : l.length ≤ 140737488351232) :
    Calls Tryz.prog 3 #[lv] w fun e w' => e = .returned (.bool true) ∧ Below w.heap.size w w' := by
  obtain ⟨ar, cr, rfl⟩ := ha.shape
  have HW := Lib.hid hw
  have HA := Lib.hid ha
  have HO := Lib.hid ho
  have HL := Lib.hid hl
  clear hw ha ho hl
  go_enter Tryz.func3, Tryz.ntmps3
  go_wp2_with fail
  refine (lexWorks w HW.out).mono ?_
  rintro e w1 ⟨rfl, hb1⟩
  have HB1 := Lib.hid hb1
  clear hb1
  go_wp2_with fail
  refine (longT _ l w1 (HA.out.below HB1.out) HL.out).mono ?_
  rintro e w2 ⟨hr, hb2⟩
  have HB2 := Lib.hid (next HB1.out hb2)
  clear hb2
  rcases hr with rfl | ⟨rfl, h400, hsz⟩
  · go_wp2_with fail
    go_ret
    exact ⟨rfl, HB2.out⟩
  have H400 := Lib.hid h400
  have HSZ := Lib.hid hsz
  clear h400 hsz
  have hwr := writeW (.slice ar l.length cr) l w2 (HW.out.later HB2.out) (HA.out.below HB2.out) (fun t ht => (HO.out t ht).2.2.1) (by have := H400.out; omega)
  have HRF : Hid (∀ W, Below w.heap.size w W → Calls Tryz.prog 7 #[.slice ar l.length cr] W fun e w' => e = .returned (.tuple #[str (writeL l).1, .int .i64 ((writeL l).2 : Int)]) ∧ Below W.heap.size W w') := Lib.hid (fun W hW => refWriteW _ l W (HA.out.below hW) (fun t ht => (HO.out t ht).2.2.1) (fun t ht => by have := HSZ.out t ht; omega) (by have := H400.out; omega))
  obtain ⟨S, hS⟩ : ∃ S : ByteArray, S = ⟨(writeL l).1.toArray⟩ := ⟨_, rfl⟩
  rw [show str (writeL l).1 = .string S by rw [hS]] at hwr HRF
  generalize (writeL l).2 = code at *
  have HWR := Lib.hid hwr
  clear hS hwr
  go_wp2_with fail
  refine HWR.out.mono ?_
  rintro e w3 ⟨rfl, hb3⟩
  have HB3 := Lib.hid (next HB2.out hb3)
  clear hb3
  go_wp2_with fail
  refine (HRF.out w3 HB3.out).mono ?_
  rintro e w4 ⟨rfl, hb4⟩
  have HB4 := Lib.hid (next HB3.out hb4)
  clear hb4
  have es : (S.toList == S.toList) = true := by rw [str_eq]; simp
  go_wp2_with fail
  go_ret
  exact ⟨rfl, HB4.out⟩

theorem own : ownKnob Tryz.prog.godebug = none := by kernel_rfl
theorem laid : laidOutB Tryz.prog = true := by kernel_rfl
def laidD : List (String × DataW Unit) := [("math/bits.deBruijn32tab", Rows.laid_math_bits_deBruijn32tab), ("math/bits.deBruijn64tab", Rows.laid_math_bits_deBruijn64tab), ("internal/strconv.uint64pow10", Rows.laid_internal_strconv_uint64pow10), ("unicode/utf8.acceptRanges", Rows.laid_unicode_utf8_acceptRanges), ("strconv.ErrRange", Rows.laid_strconv_ErrRange), ("strconv.ErrSyntax", Rows.laid_strconv_ErrSyntax), ("unicode.White_Space", Rows.laid_unicode_White_Space), ("strings.asciiSpace", Rows.laid_strings_asciiSpace), ("unicode/utf8.first", Rows.laid_unicode_utf8_first)]
theorem tied {ps qs : Array TypeId} {j : Nat} {t : TypeId} (_ : ps = qs) (hall : (ps.all fun u => !Tryz.prog.wantsStandIn u) = true) (ht : ps[j]? = some t) : Tryz.prog.wantsStandIn t = false := by
  obtain ⟨hj, rfl⟩ := Array.getElem?_eq_some_iff.1 ht
  have := Array.all_eq_true.1 hall j hj
  simpa using this

set_option maxRecDepth 100000 in
theorem opened {H : Type} (enc : TypeId × Value → H) (W : World) (args : Array Value) (ds : List (DataW H)) (p : List MemPlace) (hsh : W.ShapedOpen Tryz.prog) (hL : laidMetH Tryz.prog laidD W) :
    Lift.Owes enc Tryz.prog 3 Tryz.f3.params.toList W args ds p := by
  have HL := Lib.hid hL
  clear hL
  intro hA hval hsz _
  rw [Tryz.params3] at hA hval hsz
  obtain ⟨v0, vs0, d0, ds0, p0, q0, hargs, rfl, rfl, h0, r0⟩ := trodAll_cons hA
  obtain ⟨rfl, rfl, rfl⟩ := trodAll_nil r0
  obtain rfl : args = #[v0] := by cases args; simp_all
  obtain ⟨base0, hv0⟩ := hval 0 _ v0 rfl rfl
  obtain ⟨X0, a0, o0, l0⟩ := arg_Ts tkT (by kernel_rfl) hv0 h0 (lim_arg hsz (j := 0) rfl rfl)
  exact walk v0 X0 W (lx9 hsh HL.out) a0 o0 (by omega)

set_option maxRecDepth 100000 in
theorem lifted (os : Os) (started : os.Started) (H : Type) (enc : TypeId × Value → H) :
    ReturnsInHanded {} Tryz.checked os 3 .any (fun w args => (Rows.lexWritesSpec.pre enc Tryz.prog Tryz.f3 [] false w args ∧ laidMetH Tryz.prog laidD w) ∧ sizedMet enc Tryz.prog Tryz.f3 (OpenSpec.ofChange Rows.lexWritesSpec) false w args)
      (Rows.lexWritesSpec.post enc Tryz.prog Tryz.f3 false true false false) := by
  refine Lift.liftedD (C := Tryz.checked) (X := fun w _ => laidMetH Tryz.prog laidD w) (fun _ _ _ hh h => h.of_heap hh) own started (by kernel_rfl) Tryz.func3
    (ChangeSpec.witness_shaped (enc := enc) (C := Tryz.checked) (os := os) (X := fun w _ => laidMetH Tryz.prog laidD w) false (World.laidAll Tryz.prog os laidD) #[.slice none 0 0] 8 (World.laidAll_os _ _ _)
      (World.shaped_of_ZipB (by kernel_rfl) (by kernel_rfl)) (by kernel_rfl) (by kernel_rfl) (by kernel_rfl)
      (by rw [MakeChecks.laidMetH_plain _ _ _ (by kernel_rfl)]; exact laidMet_laidAll _ (by kernel_rfl) (by kernel_rfl)))
    laid (by rw [Tryz.params3]; intro t ht; simp at ht; rcases ht with rfl <;> exact ⟨by kernel_rfl, of_decide_eq_true (by kernel_rfl)⟩) rfl 4 rfl Tryz.underlying4
    (fun ds hds => by match ds, hds with | [_], _ => rfl) (fun W args ds p hsh hL => opened enc W args ds p hsh hL)

theorem row_said : Rows.LexWritesSaid :=
  OpenClaim.holds_of_wide 3 Tryz.f3 rfl rfl rfl rfl rfl rfl rfl ⟨rfl, rfl, rfl, rfl, rfl⟩ rfl rfl rfl rfl rfl (by kernel_rfl) Tryz.func3 (by kernel_rfl)
    (of_decide_eq_true (by kernel_rfl)) (by unfold Func.isWrapper; first | (rw [if_pos (by decide +kernel)]; kernel_rfl) | (rw [if_neg (by decide +kernel)]; exact ⟨rfl, rfl⟩))
    (fun os started H enc _ => lifted os started H enc)

theorem said : Rows.LexWritesCardSaid :=
  Claim7.holds_tied_plain_at .later [] [.data, .data, .data, .data, .sentinel, .sentinel, .listed, .data, .pinned] true (true, "cf2c7d7cab6625be8a34d16832301fb2bdc9e2c2f380d46117612d8abbac065e") true
    row_said (fun _ h => by cases h) (by kernel_rfl) (fun _ h => by cases h) lexWrites_row_tie rfl ⟨rfl, rfl⟩ (by kernel_rfl) rfl
    (fun f fn hf hfn => by
      obtain rfl : f = 3 := Option.some.inj ((show Tryz.prog.funcNamed "counterfoil/counterfoillaw13.LexWrites" = some 3 by kernel_rfl).symm.trans hf) |>.symm
      obtain rfl : fn = Tryz.f3 := (Option.some.inj (Tryz.func3.symm.trans hfn)).symm
      exact ⟨by kernel_rfl, fun j t ht => by
        rw [Tryz.params3] at ht
        exact tied Tryz.params3.symm (by kernel_rfl) ht⟩)
    (by kernel_rfl)
#print axioms said
end Go.Proofs.YtghfaeapgghhlaaGreatDoor.LexWrites
