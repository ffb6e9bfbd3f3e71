/- ValueCompares: the law returns true at every input. -/
import Derived.Test.YthiajonjleambaaDoorLiftD
import Derived.Test.YthiajonjleambaaDoorTie
import Derived.Test.YthiajonjleambaaDoorCards
import Derived.SevenTiedAt
import Derived.Stop.Joined
import Derived.Test.YthiajonjleambaaDoorValGreat
import Derived.Test.YthiajonjleambaaDoorRefTop
import Derived.Test.YthiajonjleambaaDoorRefRows
import Derived.Test.YthiajonjleambaaDoorValLaid
import Derived.Test.YthiajonjleambaaDoorOpen
namespace Go.Proofs.YthiajonjleambaaDoor.ValueCompares
open Go.ChangeShapes Go.WideShapes Go.ChangeAt Go.RowKit Go.Proofs.YthiajonjleambaaDoor.By
set_option linter.unusedVariables false
-- laid
/- ValueCompares: any values: their order. No conditions beyond what the row lists. -/
open Go.Proofs.YthiajonjleambaaDoor.Dt
set_option maxRecDepth 100000 in
set_option maxHeartbeats 8000000 in
theorem walk (a b : V) (w : World) (hw : LW w) (oa : a.ok) (ob : b.ok) :
    Calls Tryd.prog 4 #[a.val, b.val] w fun e w' => e = .returned (.bool true) ∧ Below w.heap.size w w' := by
  have OA := Lib.hid oa
  have OB := Lib.hid ob
  have HW := Lib.hid hw
  clear oa ob hw
  have hb0 : Below w.heap.size w ((w.alloc (.cells #[.int .u8 (a.k : Int), .int .i64 a.n, .string a.s] 23)).alloc (.cells #[.int .u8 (b.k : Int), .int .i64 b.n, .string b.s] 23)) := ((Below.refl _ _).alloc (Nat.le_refl _) _).alloc (by simp) _
  have HB0 := Lib.hid hb0
  have HX : Hid (Box w.heap.size [.int .u8 (a.k : Int), .int .i64 a.n, .string a.s] ((w.alloc (.cells #[.int .u8 (a.k : Int), .int .i64 a.n, .string a.s] 23)).alloc (.cells #[.int .u8 (b.k : Int), .int .i64 b.n, .string b.s] 23))) := Lib.hid (by
    intro i u hu
    rcases i with _ | _ | _ | i <;> simp at hu <;> subst hu <;> exact ⟨by go_simp, by go_simp⟩)
  have HY : Hid (Box (w.heap.size + 1) [.int .u8 (b.k : Int), .int .i64 b.n, .string b.s] ((w.alloc (.cells #[.int .u8 (a.k : Int), .int .i64 a.n, .string a.s] 23)).alloc (.cells #[.int .u8 (b.k : Int), .int .i64 b.n, .string b.s] 23))) := Lib.hid (by
    intro i u hu
    rcases i with _ | _ | _ | i <;> simp at hu <;> subst hu <;> exact ⟨by go_simp, by go_simp⟩)
  clear hb0
  go_enter Tryd.func4, Tryd.ntmps4
  go_wp2_with fail
  generalize (w.alloc (.cells #[.int .u8 (a.k : Int), .int .i64 a.n, .string a.s] 23)).alloc (.cells #[.int .u8 (b.k : Int), .int .i64 b.n, .string b.s] 23) = W0 at *
  refine (works W0 (HW.out.later HB0.out)).mono ?_
  rintro e w1 ⟨rfl, hb1⟩
  have HB1 := Lib.hid (next HB0.out hb1)
  have HX1 := HX.out.later hb1
  have HY1 := HY.out.later hb1
  obtain ⟨x0, g0⟩ := HX1 0 _ rfl
  obtain ⟨x1, g1⟩ := HX1 1 _ rfl
  obtain ⟨x2, g2⟩ := HX1 2 _ rfl
  obtain ⟨y0, h0⟩ := HY1 0 _ rfl
  obtain ⟨y1, h1⟩ := HY1 1 _ rfl
  obtain ⟨y2, h2⟩ := HY1 2 _ rfl
  clear hb1 HX HY HX1 HY1 g0 g1 g2 h0 h1 h2
  by_cases hla : 16384 < a.s.size
  · have hlg : ∀ W, Calls Tryd.prog 8 #[.string a.s] W fun e w' => e = .returned (.bool true) ∧ W = w' := fun W => by rw [← decide_eq_true hla]; exact longW a.s W
    have HLG := Lib.hid hlg
    clear hlg hla
    go_wp2_with fail
    refine (HLG.out _).mono ?_
    rintro e w2 ⟨rfl, rfl⟩
    go_wp2_with fail
    go_ret
    exact ⟨rfl, HB1.out⟩
  · have hlg : ∀ W, Calls Tryd.prog 8 #[.string a.s] W fun e w' => e = .returned (.bool false) ∧ W = w' := fun W => by rw [← decide_eq_false hla]; exact longW a.s W
    have HLA := Lib.hid hlg
    have HSA : Hid (a.s.size ≤ 16384) := Lib.hid (by omega)
    clear hlg hla
    by_cases hlb : 16384 < b.s.size
    · have hlg : ∀ W, Calls Tryd.prog 8 #[.string b.s] W fun e w' => e = .returned (.bool true) ∧ W = w' := fun W => by rw [← decide_eq_true hlb]; exact longW b.s W
      have HLG := Lib.hid hlg
      clear hlg hlb
      go_wp2_with fail
      refine (HLA.out _).mono ?_
      rintro e w2 ⟨rfl, rfl⟩
      go_wp2_with fail
      refine (HLG.out _).mono ?_
      rintro e w2 ⟨rfl, rfl⟩
      go_wp2_with fail
      go_ret
      exact ⟨rfl, HB1.out⟩
    · have hlg : ∀ W, Calls Tryd.prog 8 #[.string b.s] W fun e w' => e = .returned (.bool false) ∧ W = w' := fun W => by rw [← decide_eq_false hlb]; exact longW b.s W
      have HLB := Lib.hid hlg
      have HSB : Hid (b.s.size ≤ 16384) := Lib.hid (by omega)
      clear hlg hlb
      obtain ⟨C, hC⟩ : ∃ C, C = cmpV a b := ⟨_, rfl⟩
      have HC1 : Hid (∀ W, Calls Tryd.prog 13 #[a.val, b.val] W fun e w' => e = .returned (.int .i64 C) ∧ Below W.heap.size W w') := Lib.hid (fun W => by rw [hC]; exact compare a b W)
      have HC2 : Hid (∀ W, Calls Tryd.prog 14 #[a.val, b.val] W fun e w' => e = .returned (.int .i64 C) ∧ Below W.heap.size W w') := Lib.hid (fun W => by rw [hC]; have hh := cmpV_ok OA.out OB.out; exact refCompare a b W hh.1 hh.2.1 hh.2.2.1 hh.2.2.2)
      clear hC
      go_wp2_with fail
      refine (HLA.out _).mono ?_
      rintro e w2 ⟨rfl, rfl⟩
      go_wp2_with fail
      refine (HLB.out _).mono ?_
      rintro e w2 ⟨rfl, rfl⟩
      go_upto_region 5 with fail
      have l0 := lat_cell x0
      have l1 := lat_cell x1
      have l2 := lat_cell x2
      have m0 := lat_cell y0
      have m1 := lat_cell y1
      have m2 := lat_cell y2
      refine wp_region_later (by kernel_rfl) (by kernel_rfl) ?_
      repeat (go_big_quiet_step ((first | (go_at_call 13; exact lat_calls (HC1.out _)) | (go_at_call 14; exact lat_calls (HC2.out _)))))
      refine wpQuiet_nil ?_
      refine later_out (fun w2 hb2 => ?_)
      have HB2 := Lib.hid (next HB1.out hb2)
      clear l0 l1 l2 m0 m1 m2 hb2
      go_wp2_with fail
      refine bodyPost_ret (v := .bool true) (by simp [results, Tryd.results4, go_sem]) rfl ⟨rfl, HB2.out⟩

theorem own : ownKnob Tryd.prog.godebug = none := by kernel_rfl
theorem laid : laidOutB Tryd.prog = true := by kernel_rfl
def laidD : List (String × DataW Unit) := [("math/bits.deBruijn32tab", Rows.laid_math_bits_deBruijn32tab), ("math/bits.deBruijn64tab", Rows.laid_math_bits_deBruijn64tab), ("internal/strconv.uint64pow10", Rows.laid_internal_strconv_uint64pow10), ("unicode/utf8.acceptRanges", Rows.laid_unicode_utf8_acceptRanges), ("strconv.ErrRange", Rows.laid_strconv_ErrRange), ("strconv.ErrSyntax", Rows.laid_strconv_ErrSyntax), ("unicode/utf8.first", Rows.laid_unicode_utf8_first)]
theorem tied {ps qs : Array TypeId} {j : Nat} {t : TypeId} (_ : ps = qs) (hall : (ps.all fun u => !Tryd.prog.wantsStandIn u) = true) (ht : ps[j]? = some t) : Tryd.prog.wantsStandIn t = false := by
  obtain ⟨hj, rfl⟩ := Array.getElem?_eq_some_iff.1 ht
  have := Array.all_eq_true.1 hall j hj
  simpa using this

set_option maxRecDepth 100000 in
theorem opened {H : Type} (enc : TypeId × Value → H) (W : World) (args : Array Value) (ds : List (DataW H)) (p : List MemPlace) (hsh : W.ShapedOpen Tryd.prog) (hL : laidMetH Tryd.prog laidD W) :
    Lift.Owes enc Tryd.prog 4 Tryd.f4.params.toList W args ds p := by
  have HL := Lib.hid hL
  clear hL
  intro hA hval hsz _
  rw [Tryd.params4] at hA hval hsz
  obtain ⟨v0, vs0, d0, ds0, p0, q0, hargs, rfl, rfl, h0, r0⟩ := trodAll_cons hA
  obtain ⟨v1, vs1, d1, ds1, p1, q1, rfl, rfl, rfl, h1, r1⟩ := trodAll_cons r0
  obtain ⟨rfl, rfl, rfl⟩ := trodAll_nil r1
  obtain rfl : args = #[v0, v1] := by cases args; simp_all
  obtain ⟨base0, hv0⟩ := hval 0 _ v0 rfl rfl
  obtain ⟨x0, rfl, o0⟩ := arg_V vT hv0 h0 (lim_arg hsz (j := 0) rfl rfl)
  obtain ⟨base1, hv1⟩ := hval 1 _ v1 rfl rfl
  obtain ⟨x1, rfl, o1⟩ := arg_V vT hv1 h1 (lim_arg hsz (j := 1) rfl rfl)
  exact walk x0 x1 W (lw hsh HL.out) o0 o1

set_option maxRecDepth 100000 in
theorem lifted (os : Os) (started : os.Started) (H : Type) (enc : TypeId × Value → H) :
    ReturnsInHanded {} Tryd.checked os 4 .any (fun w args => (Rows.valueComparesSpec.pre enc Tryd.prog Tryd.f4 [] false w args ∧ laidMetH Tryd.prog laidD w) ∧ sizedMet enc Tryd.prog Tryd.f4 (OpenSpec.ofChange Rows.valueComparesSpec) false w args)
      (Rows.valueComparesSpec.post enc Tryd.prog Tryd.f4 false true false false) := by
  refine Lift.liftedD (C := Tryd.checked) (X := fun w _ => laidMetH Tryd.prog laidD w) (fun _ _ _ hh h => h.of_heap hh) own started (by kernel_rfl) Tryd.func4
    (ChangeSpec.witness_shaped (enc := enc) (C := Tryd.checked) (os := os) (X := fun w _ => laidMetH Tryd.prog laidD w) false (World.laidAll Tryd.prog os laidD) #[.agg #[.int .u8 0, .int .i64 0, .string ByteArray.empty], .agg #[.int .u8 0, .int .i64 0, .string ByteArray.empty]] 8 (World.laidAll_os _ _ _)
      (World.shaped_of_ZipB (by kernel_rfl) (by kernel_rfl)) (by kernel_rfl) (by kernel_rfl) (by kernel_rfl)
      (by rw [MakeChecks.laidMetH_plain _ _ _ (by kernel_rfl)]; exact laidMet_laidAll _ (by kernel_rfl) (by kernel_rfl)))
    laid (by rw [Tryd.params4]; intro t ht; simp at ht; rcases ht with rfl | rfl <;> exact ⟨by kernel_rfl, of_decide_eq_true (by kernel_rfl)⟩) rfl 4 rfl Tryd.underlying4
    (fun ds hds => by match ds, hds with | [_, _], _ => rfl) (fun W args ds p hsh hL => opened enc W args ds p hsh hL)

theorem row_said : Rows.ValueComparesSaid :=
  OpenClaim.holds_of_wide 4 Tryd.f4 rfl rfl rfl rfl rfl rfl rfl ⟨rfl, rfl, rfl, rfl, rfl⟩ rfl rfl rfl rfl rfl (by kernel_rfl) Tryd.func4 (by kernel_rfl)
    (of_decide_eq_true (by kernel_rfl)) (by unfold Func.isWrapper; first | (rw [if_pos (by decide +kernel)]; kernel_rfl) | (rw [if_neg (by decide +kernel)]; exact ⟨rfl, rfl⟩))
    (fun os started H enc _ => lifted os started H enc)

theorem said : Rows.ValueComparesCardSaid :=
  Claim7.holds_tied_plain_at .later [] [.data, .data, .data, .data, .sentinel, .sentinel, .pinned] true (true, "4b7a2c20f75bf7682f85fb04ecf290c0a7a2903323aaa919f05a4553b659c440") true
    row_said (fun _ h => by cases h) (by kernel_rfl) (fun _ h => by cases h) valueCompares_row_tie rfl ⟨rfl, rfl⟩ (by kernel_rfl) rfl
    (fun f fn hf hfn => by
      obtain rfl : f = 4 := Option.some.inj ((show Tryd.prog.funcNamed "counterfoil/counterfoillaw07.ValueCompares" = some 4 by kernel_rfl).symm.trans hf) |>.symm
      obtain rfl : fn = Tryd.f4 := (Option.some.inj (Tryd.func4.symm.trans hfn)).symm
      exact ⟨by kernel_rfl, fun j t ht => by
        rw [Tryd.params4] at ht
        exact tied Tryd.params4.symm (by kernel_rfl) ht⟩)
    (by kernel_rfl)
#print axioms said
end Go.Proofs.YthiajonjleambaaDoor.ValueCompares
