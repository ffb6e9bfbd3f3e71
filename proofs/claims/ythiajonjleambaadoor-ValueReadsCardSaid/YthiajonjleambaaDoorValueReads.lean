/- ValueReads: the law returns true at every input. -/
import Derived.Test.YthiajonjleambaaDoorLiftD
import Derived.Test.YthiajonjleambaaDoorTie
import Derived.Test.YthiajonjleambaaDoorCards
import Derived.SevenTiedAt
import Derived.Stop.Joined
import Derived.Test.YthiajonjleambaaDoorValGreat
import Derived.Test.YthiajonjleambaaDoorRefTop
import Derived.Test.YthiajonjleambaaDoorRefRows
import Derived.Test.YthiajonjleambaaDoorValLaid
namespace Go.Proofs.YthiajonjleambaaDoor.ValueReads
open Go.ChangeShapes Go.WideShapes Go.ChangeAt Go.RowKit Go.Proofs.YthiajonjleambaaDoor.By
set_option linter.unusedVariables false
-- laid
/- ValueReads: any text: the value whose literal it is, or an error. No conditions beyond what the row lists. -/
open Go.Proofs.YthiajonjleambaaDoor.Dt
set_option maxRecDepth 100000 in
set_option maxHeartbeats 8000000 in
theorem walk (s : ByteArray) (w : World) (hw : LW w) (_hs : s.size ≤ 140737488351232) :
    Calls Tryd.prog 6 #[.string s] w fun e w' => e = .returned (.bool true) ∧ Below w.heap.size w w' := by
  have HW := Lib.hid hw
  clear hw _hs
  go_enter Tryd.func6, Tryd.ntmps6
  go_wp2_with fail
  refine (works w HW.out).mono ?_
  rintro e w1 ⟨rfl, hb1⟩
  have HB1 := Lib.hid hb1
  clear hb1
  by_cases hl : 16384 < s.size
  · have hlg : ∀ W, Calls Tryd.prog 8 #[.string s] W fun e w' => e = .returned (.bool true) ∧ W = w' := fun W => by rw [← decide_eq_true hl]; exact longW s W
    have HLG := Lib.hid hlg
    clear hlg hl
    go_wp2_with fail
    refine (HLG.out _).mono ?_
    rintro e w2 ⟨rfl, rfl⟩
    go_wp2_with fail
    go_ret
    exact ⟨rfl, HB1.out⟩
  · have hlg : ∀ W, Calls Tryd.prog 8 #[.string s] W fun e w' => e = .returned (.bool false) ∧ W = w' := fun W => by rw [← decide_eq_false hl]; exact longW s W
    have HLG := Lib.hid hlg
    have HS : Hid (s.size ≤ 1000000) := Lib.hid (by omega)
    clear hlg hl
    go_wp2_with fail
    refine (HLG.out _).mono ?_
    rintro e w2 ⟨rfl, rfl⟩
    go_wp2_with fail
    refine (readW s w1 (HW.out.later HB1.out) HS.out).mono ?_
    rintro e w3 ⟨rfl, hb3⟩
    have HB3 := Lib.hid (next HB1.out hb3)
    clear hb3
    obtain ⟨R, hR⟩ : ∃ R, R = readS s.data.toList := ⟨_, rfl⟩
    have HRF := Lib.hid (fun W => refReadW s W HS.out)
    rw [← hR] at HRF ⊢
    clear hR
    obtain ⟨v, n⟩ := R
    have hb4 := HB3.out.alloc HB3.out.size (.cells #[.int .u8 (v.k : Int), .int .i64 v.n, .string v.s] 23)
    have HB4 := Lib.hid hb4
    clear hb4
    go_wp2_with fail
    refine (HRF.out _).mono ?_
    rintro e w5 ⟨rfl, hb5⟩
    obtain ⟨c0, c1, c2⟩ := cells_V w3 w5 v _ hb5
    have HB5 := Lib.hid (next HB4.out hb5)
    clear hb5
    have heq : ∀ W, (binOp .eql 23 v.val v.val).run Tryd.prog W = .ok (.bool true) W := fun W => eq_told v v true (by simp) W
    have z0 : w3.heap.size < w5.heap.size := cell_lt c0
    go_wp2_with fail
    refine bodyPost_ret (v := .bool true) (by simp [results, Tryd.results6, go_sem]) rfl ⟨rfl, ?_⟩
    exact HB5.out.alloc HB5.out.size _

theorem own : ownKnob Tryd.prog.godebug = none := by kernel_rfl
theorem laid : laidOutB Tryd.prog = true := by kernel_rfl
def laidD : List (String × DataW Unit) := [("math/bits.deBruijn32tab", Rows.laid_math_bits_deBruijn32tab), ("math/bits.deBruijn64tab", Rows.laid_math_bits_deBruijn64tab), ("internal/strconv.uint64pow10", Rows.laid_internal_strconv_uint64pow10), ("unicode/utf8.acceptRanges", Rows.laid_unicode_utf8_acceptRanges), ("strconv.ErrRange", Rows.laid_strconv_ErrRange), ("strconv.ErrSyntax", Rows.laid_strconv_ErrSyntax), ("unicode/utf8.first", Rows.laid_unicode_utf8_first)]
theorem tied {ps qs : Array TypeId} {j : Nat} {t : TypeId} (_ : ps = qs) (hall : (ps.all fun u => !Tryd.prog.wantsStandIn u) = true) (ht : ps[j]? = some t) : Tryd.prog.wantsStandIn t = false := by
  obtain ⟨hj, rfl⟩ := Array.getElem?_eq_some_iff.1 ht
  have := Array.all_eq_true.1 hall j hj
  simpa using this

set_option maxRecDepth 100000 in
theorem opened {H : Type} (enc : TypeId × Value → H) (W : World) (args : Array Value) (ds : List (DataW H)) (p : List MemPlace) (hsh : W.ShapedOpen Tryd.prog) (hL : laidMetH Tryd.prog laidD W) :
    Lift.Owes enc Tryd.prog 6 Tryd.f6.params.toList W args ds p := by
  have HL := Lib.hid hL
  clear hL
  intro hA hval hsz _
  rw [Tryd.params6] at hA hval hsz
  obtain ⟨v0, vs0, d0, ds0, p0, q0, hargs, rfl, rfl, h0, r0⟩ := trodAll_cons hA
  obtain ⟨rfl, rfl, rfl⟩ := trodAll_nil r0
  obtain rfl : args = #[v0] := by cases args; simp_all
  obtain ⟨base0, hv0⟩ := hval 0 _ v0 rfl rfl
  obtain ⟨s0, rfl, rfl, rfl, ws0⟩ := ChangeMaps.open_string Tryd.underlying9 hv0 h0
  have z0 := sized_string hsz (j := 0) rfl rfl
  simp only [reachBytes, Array.length_toList] at z0
  exact walk s0 W (lw hsh HL.out) z0

set_option maxRecDepth 100000 in
theorem lifted (os : Os) (started : os.Started) (H : Type) (enc : TypeId × Value → H) :
    ReturnsInHanded {} Tryd.checked os 6 .any (fun w args => (Rows.valueReadsSpec.pre enc Tryd.prog Tryd.f6 [] false w args ∧ laidMetH Tryd.prog laidD w) ∧ sizedMet enc Tryd.prog Tryd.f6 (OpenSpec.ofChange Rows.valueReadsSpec) false w args)
      (Rows.valueReadsSpec.post enc Tryd.prog Tryd.f6 false true false false) := by
  refine Lift.liftedD (C := Tryd.checked) (X := fun w _ => laidMetH Tryd.prog laidD w) (fun _ _ _ hh h => h.of_heap hh) own started (by kernel_rfl) Tryd.func6
    (ChangeSpec.witness_shaped (enc := enc) (C := Tryd.checked) (os := os) (X := fun w _ => laidMetH Tryd.prog laidD w) false (World.laidAll Tryd.prog os laidD) #[.string ByteArray.empty] 8 (World.laidAll_os _ _ _)
      (World.shaped_of_ZipB (by kernel_rfl) (by kernel_rfl)) (by kernel_rfl) (by kernel_rfl) (by kernel_rfl)
      (by rw [MakeChecks.laidMetH_plain _ _ _ (by kernel_rfl)]; exact laidMet_laidAll _ (by kernel_rfl) (by kernel_rfl)))
    laid (by rw [Tryd.params6]; intro t ht; simp at ht; rcases ht with rfl <;> exact ⟨by kernel_rfl, of_decide_eq_true (by kernel_rfl)⟩) rfl 4 rfl Tryd.underlying4
    (fun ds hds => by match ds, hds with | [_], _ => rfl) (fun W args ds p hsh hL => opened enc W args ds p hsh hL)

theorem row_said : Rows.ValueReadsSaid :=
  OpenClaim.holds_of_wide 6 Tryd.f6 rfl rfl rfl rfl rfl rfl rfl ⟨rfl, rfl, rfl, rfl, rfl⟩ rfl rfl rfl rfl rfl (by kernel_rfl) Tryd.func6 (by kernel_rfl)
    (of_decide_eq_true (by kernel_rfl)) (by unfold Func.isWrapper; first | (rw [if_pos (by decide +kernel)]; kernel_rfl) | (rw [if_neg (by decide +kernel)]; exact ⟨rfl, rfl⟩))
    (fun os started H enc _ => lifted os started H enc)

theorem said : Rows.ValueReadsCardSaid :=
  Claim7.holds_tied_plain_at .later [] [.data, .data, .data, .data, .sentinel, .sentinel, .pinned] true (true, "4b7a2c20f75bf7682f85fb04ecf290c0a7a2903323aaa919f05a4553b659c440") true
    row_said (fun _ h => by cases h) (by kernel_rfl) (fun _ h => by cases h) valueReads_row_tie rfl ⟨rfl, rfl⟩ (by kernel_rfl) rfl
    (fun f fn hf hfn => by
      obtain rfl : f = 6 := Option.some.inj ((show Tryd.prog.funcNamed "counterfoil/counterfoillaw07.ValueReads" = some 6 by kernel_rfl).symm.trans hf) |>.symm
      obtain rfl : fn = Tryd.f6 := (Option.some.inj (Tryd.func6.symm.trans hfn)).symm
      exact ⟨by kernel_rfl, fun j t ht => by
        rw [Tryd.params6] at ht
        exact tied Tryd.params6.symm (by kernel_rfl) ht⟩)
    (by kernel_rfl)
#print axioms said
end Go.Proofs.YthiajonjleambaaDoor.ValueReads
