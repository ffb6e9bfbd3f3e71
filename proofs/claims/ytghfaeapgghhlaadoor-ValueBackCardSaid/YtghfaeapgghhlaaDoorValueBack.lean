/- ValueBack: the law returns true at every input. -/
import Derived.Test.YtghfaeapgghhlaaDoorLiftD
import Derived.Test.YtghfaeapgghhlaaDoorTie
import Derived.Test.YtghfaeapgghhlaaDoorCards
import Derived.SevenTiedAt
import Derived.Stop.Joined
import Derived.Test.YtghfaeapgghhlaaDoorValGreat
import Derived.Test.YtghfaeapgghhlaaDoorValLaid
import Derived.Test.YtghfaeapgghhlaaDoorOpen
namespace Go.Proofs.YtghfaeapgghhlaaDoor.ValueBack
open Go.ChangeShapes Go.WideShapes Go.ChangeAt Go.RowKit Go.Proofs.YtghfaeapgghhlaaDoor.By
set_option linter.unusedVariables false
-- laid
/- ValueBack: what is written is read as it was; what is read is written as it was. No conditions beyond what the row lists. -/
open Go.Proofs.YtghfaeapgghhlaaDoor.Dt
theorem itoa_len {n : Int} (h1 : -9223372036854775808 ≤ n) (h2 : n ≤ 9223372036854775807) : (Lib.itoa n).length ≤ 1000 := by
  unfold Lib.itoa
  split
  · rename_i h
    have := dec_len 20 n.natAbs (by have : n.natAbs ≤ 9223372036854775808 := by omega
                                    exact Nat.lt_of_le_of_lt this (by decide)) (by decide)
    simp only [List.length_cons]; omega
  · rename_i h
    have := dec_len 20 n.toNat (by have : n.toNat ≤ 9223372036854775808 := by omega
                                   exact Nat.lt_of_le_of_lt this (by decide)) (by decide)
    omega
theorem lit_len {v : V} (hc : checkV v = 0) (ho : v.ok) : (litV v).length ≤ 1000000 := by
  have hs : v.s.data.toList.length ≤ 1000 := by
    rw [bytes_list]
    unfold checkV at hc
    split at hc
    · cases hc
    · split at hc
      · cases hc
      · omega
  have h1 := quoteL_len v.s.data.toList
  have h2 := hexL_length v.s.data.toList
  have h3 := itoa_len ho.2.1.1 ho.2.1.2
  unfold litV
  split
  · simp
  · split
    · omega
    · split
      · simp only [List.length_cons, List.length_append, List.length_nil]; omega
      · split
        · simp only [List.length_cons, List.length_append, List.length_nil]; omega
        · simp
set_option maxRecDepth 100000 in
set_option maxHeartbeats 16000000 in
theorem walk (x : V) (s : ByteArray) (w : World) (hw : LW w) (ov : x.ok) (_hs : s.size ≤ 140737488351232) :
    Calls Tryd.prog 4 #[x.val, .string s] w fun e w' => e = .returned (.bool true) ∧ Below w.heap.size w w' := by
  have OV := Lib.hid ov
  have HW := Lib.hid hw
  clear ov hw _hs
  have hb0 : Below w.heap.size w (w.alloc (.cells #[.int .u8 (x.k : Int), .int .i64 x.n, .string x.s] 27)) := (Below.refl _ _).alloc (Nat.le_refl _) _
  have HB0 := Lib.hid hb0
  clear hb0
  go_enter Tryd.func4, Tryd.ntmps4
  go_wp2_with fail
  refine (works _ (HW.out.later HB0.out)).mono ?_
  rintro e w1 ⟨rfl, hb1⟩
  obtain ⟨x0, x1, x2⟩ := cells_V w w1 x _ hb1
  have z0 : w.heap.size < w1.heap.size := cell_lt x0
  have HB1 := Lib.hid (next HB0.out hb1)
  clear hb1
  by_cases hla : 16384 < x.s.size
  · have hlg : ∀ W, Calls Tryd.prog 15 #[.string x.s] W fun e w' => e = .returned (.bool true) ∧ W = w' := fun W => by rw [← decide_eq_true hla]; exact longW x.s W
    have HLG := Lib.hid hlg
    clear hlg hla
    go_wp2_with fail
    refine (HLG.out _).mono ?_
    rintro e w2 ⟨rfl, rfl⟩
    go_wp2_with fail
    go_ret
    exact ⟨rfl, HB1.out⟩
  · have hlg : ∀ W, Calls Tryd.prog 15 #[.string x.s] W fun e w' => e = .returned (.bool false) ∧ W = w' := fun W => by rw [← decide_eq_false hla]; exact longW x.s W
    have HLA := Lib.hid hlg
    have HSA : Hid (x.s.size ≤ 16384) := Lib.hid (by omega)
    clear hlg hla
    go_wp2_with fail
    refine (HLA.out _).mono ?_
    rintro e w2 ⟨rfl, rfl⟩
    by_cases hls : 16384 < s.size
    · have hlg : ∀ W, Calls Tryd.prog 15 #[.string s] W fun e w' => e = .returned (.bool true) ∧ W = w' := fun W => by rw [← decide_eq_true hls]; exact longW s W
      have HLG := Lib.hid hlg
      clear hlg hls
      go_wp2_with fail
      refine (HLG.out _).mono ?_
      rintro e w2 ⟨rfl, rfl⟩
      go_wp2_with fail
      go_ret
      exact ⟨rfl, HB1.out⟩
    · have hlg : ∀ W, Calls Tryd.prog 15 #[.string s] W fun e w' => e = .returned (.bool false) ∧ W = w' := fun W => by rw [← decide_eq_false hls]; exact longW s W
      have HLS := Lib.hid hlg
      have HSS : Hid (s.size ≤ 1000000) := Lib.hid (by omega)
      clear hlg hls
      go_wp2_with fail
      refine (HLS.out _).mono ?_
      rintro e w2 ⟨rfl, rfl⟩
      obtain ⟨C, hC⟩ : ∃ C, C = checkV x := ⟨_, rfl⟩
      have HC1 : Hid (∀ W, Calls Tryd.prog 14 #[x.val] W fun e w' => e = .returned (.int .i64 (C : Int)) ∧ Below W.heap.size W w') := Lib.hid (fun W => by rw [hC]; exact check x W OV.out.1 (by have := OV.out.2.2; omega))
      have HC := Lib.hid hC
      clear hC
      go_wp2_with fail
      refine (HC1.out _).mono ?_
      rintro e w2 ⟨rfl, hb2⟩
      have HB2 := Lib.hid (next HB1.out hb2)
      replace x0 := (hb2.cell (cell_lt x0)).trans x0
      replace x1 := (hb2.cell (cell_lt x1)).trans x1
      replace x2 := (hb2.cell (cell_lt x2)).trans x2
      clear hb2 HC1
      go_upto_if 20 with fail
      go_cut [] (fun wx => Hid (Below w.heap.size w wx))
      case first =>
        by_cases hc : C = 0
        · have HC0 : Hid (checkV x = 0) := Lib.hid (by rw [← HC.out]; exact hc)
          subst hc
          obtain ⟨T, hT⟩ : ∃ T, T = litV x := ⟨_, rfl⟩
          have HLT : Hid (T.length ≤ 1000000) := Lib.hid (by rw [hT]; exact lit_len HC0.out OV.out)
          have HRD : Hid (readS (⟨T.toArray⟩ : ByteArray).data.toList = (x, 0)) := Lib.hid (by rw [hT]; exact read_lit HC0.out OV.out)
          have HL1 : Hid (∀ W, LW W → Calls Tryd.prog 17 #[x.val] W fun e w' => e = .returned (str T) ∧ Below W.heap.size W w') := Lib.hid (fun W hw => by rw [hT]; exact literalW x W hw OV.out (by have := HSA.out; omega))
          have HL2 : Hid (∀ W, LW W → Calls Tryd.prog 16 #[.string ⟨T.toArray⟩] W fun e w' => e = .returned (.tuple #[x.val, .int .i64 0]) ∧ Below W.heap.size W w') := Lib.hid (fun W hw => (readW ⟨T.toArray⟩ W hw HLT.out).mono fun e w' h => by
            rw [HRD.out] at h
            exact h)
          clear hT
          go_wp2_with fail
          refine (HL1.out _ (HW.out.later HB2.out)).mono ?_
          rintro e w3 ⟨rfl, hb3⟩
          have HB3 := Lib.hid (next HB2.out hb3)
          replace x0 := (hb3.cell (cell_lt x0)).trans x0
          replace x1 := (hb3.cell (cell_lt x1)).trans x1
          replace x2 := (hb3.cell (cell_lt x2)).trans x2
          clear hb3
          go_wp2_with fail
          refine (HL2.out _ (HW.out.later HB3.out)).mono ?_
          rintro e w4 ⟨rfl, hb4⟩
          have HB4 := Lib.hid (next HB3.out hb4)
          replace x0 := (hb4.cell (cell_lt x0)).trans x0
          replace x1 := (hb4.cell (cell_lt x1)).trans x1
          replace x2 := (hb4.cell (cell_lt x2)).trans x2
          clear hb4
          have z4 : w.heap.size < w4.heap.size := cell_lt x0
          have heq : ∀ W, (binOp .neq 27 x.val x.val).run Tryd.prog W = .ok (.bool false) W := fun W => neq_told x x false (by simp) W
          go_wp2_with fail
          go_meet
          exact Lib.hid (HB4.out.alloc HB4.out.size _)
        · have hz : ((C : Int) == 0) = false := by simp; omega
          clear hc
          go_wp2_with fail
          go_meet
          exact HB2
      case rest =>
        rename World => w5
        have HB5 := hcut
        clear hcut x0 x1 x2
        obtain ⟨R, hR⟩ : ∃ R, R = readS s.data.toList := ⟨_, rfl⟩
        have HRF : Hid (∀ W, LW W → Calls Tryd.prog 16 #[.string s] W fun e w' => e = .returned (.tuple #[R.1.val, .int .i64 (R.2 : Int)]) ∧ Below W.heap.size W w') := Lib.hid (fun W hw => by rw [hR]; exact readW s W hw HSS.out)
        have HR := Lib.hid hR.symm
        clear hR
        obtain ⟨v, n⟩ := R
        go_wp2_with fail
        refine (HRF.out _ (HW.out.later HB5.out)).mono ?_
        rintro e w6 ⟨rfl, hb6⟩
        have HB6 := Lib.hid (next HB5.out hb6)
        clear hb6
        by_cases hn : n = 0
        · subst hn
          have HLR := Lib.hid (lit_read HR.out)
          have HC1 : Hid (∀ W, Calls Tryd.prog 14 #[v.val] W fun e w' => e = .returned (.int .i64 0) ∧ Below W.heap.size W w') := Lib.hid (fun W => by
            have h := check v W HLR.out.2.2.1 (by have := HLR.out.2.2.2.2; omega)
            rw [HLR.out.1] at h; exact h)
          have HL1 : Hid (∀ W, LW W → Calls Tryd.prog 17 #[v.val] W fun e w' => e = .returned (.string s) ∧ Below W.heap.size W w') := Lib.hid (fun W hw => by
            have hsz : v.s.size ≤ 1000000 := by
              have h := HLR.out.1
              unfold checkV at h
              split at h
              · cases h
              · split at h
                · cases h
                · omega
            have h := literalW v W hw HLR.out.2.2 hsz
            rw [HLR.out.2.1] at h
            have e : str s.data.toList = .string s := congrArg Value.string (bytes_of s)
            rw [e] at h
            exact h)
          have HB7 : Hid (Below w.heap.size w (w6.alloc (.cells #[.int .u8 (v.k : Int), .int .i64 v.n, .string v.s] 27))) := Lib.hid (HB6.out.alloc HB6.out.size _)
          go_wp2_with fail
          refine (HC1.out _).mono ?_
          rintro e w7 ⟨rfl, hb7⟩
          obtain ⟨y0, y1, y2⟩ := cells_V w6 w7 v _ hb7
          have HB8 := Lib.hid (next HB7.out hb7)
          clear hb7
          go_wp2_with fail
          refine (HL1.out _ (HW.out.later HB8.out)).mono ?_
          rintro e w8 ⟨rfl, hb8⟩
          have HB9 := Lib.hid (next HB8.out hb8)
          clear hb8
          go_wp2_with fail
          go_ret
          exact ⟨rfl, HB9.out⟩
        · have HRE := Lib.hid (read_err HR.out hn)
          have hn1 : ((n : Int) != 0) = true := by simp; omega
          obtain ⟨hv, hn2⟩ := HRE.out
          subst hv
          have heq : ∀ W, (binOp .eql 27 V0.val V0.val).run Tryd.prog W = .ok (.bool true) W := fun W => eq_told V0 V0 true (by simp) W
          unfold V0 at heq
          unfold V0
          clear hn HRE
          rcases hn2 with rfl | rfl
          · go_wp2_with fail
            go_ret
            exact ⟨rfl, HB6.out.alloc HB6.out.size _⟩
          · go_wp2_with fail
            go_ret
            exact ⟨rfl, HB6.out.alloc HB6.out.size _⟩

theorem own : ownKnob Tryd.prog.godebug = none := by kernel_rfl
theorem laid : laidOutB Tryd.prog = true := by kernel_rfl
def laidD : List (String × DataW Unit) := [("math/bits.deBruijn32tab", Rows.laid_math_bits_deBruijn32tab), ("math/bits.deBruijn64tab", Rows.laid_math_bits_deBruijn64tab), ("internal/strconv.uint64pow10", Rows.laid_internal_strconv_uint64pow10), ("unicode/utf8.acceptRanges", Rows.laid_unicode_utf8_acceptRanges), ("strconv.ErrRange", Rows.laid_strconv_ErrRange), ("strconv.ErrSyntax", Rows.laid_strconv_ErrSyntax), ("unicode/utf8.first", Rows.laid_unicode_utf8_first)]
theorem tied {ps qs : Array TypeId} {j : Nat} {t : TypeId} (_ : ps = qs) (hall : (ps.all fun u => !Tryd.prog.wantsStandIn u) = true) (ht : ps[j]? = some t) : Tryd.prog.wantsStandIn t = false := by
  obtain ⟨hj, rfl⟩ := Array.getElem?_eq_some_iff.1 ht
  have := Array.all_eq_true.1 hall j hj
  simpa using this

set_option maxRecDepth 100000 in
theorem opened {H : Type} (enc : TypeId × Value → H) (W : World) (args : Array Value) (ds : List (DataW H)) (p : List MemPlace) (hsh : W.ShapedOpen Tryd.prog) (hL : laidMetH Tryd.prog laidD W) :
    Lift.Owes enc Tryd.prog 4 Tryd.f4.params.toList W args ds p := by
  have HL := Lib.hid hL
  clear hL
  intro hA hval hsz _
  rw [Tryd.params4] at hA hval hsz
  obtain ⟨v0, vs0, d0, ds0, p0, q0, hargs, rfl, rfl, h0, r0⟩ := trodAll_cons hA
  obtain ⟨v1, vs1, d1, ds1, p1, q1, rfl, rfl, rfl, h1, r1⟩ := trodAll_cons r0
  obtain ⟨rfl, rfl, rfl⟩ := trodAll_nil r1
  obtain rfl : args = #[v0, v1] := by cases args; simp_all
  obtain ⟨base0, hv0⟩ := hval 0 _ v0 rfl rfl
  obtain ⟨x0, rfl, o0⟩ := arg_V vT hv0 h0 (lim_arg hsz (j := 0) rfl rfl)
  obtain ⟨base1, hv1⟩ := hval 1 _ v1 rfl rfl
  obtain ⟨s1, rfl, rfl, rfl, ws1⟩ := ChangeMaps.open_string Tryd.underlying9 hv1 h1
  have z1 := sized_string hsz (j := 1) rfl rfl
  simp only [reachBytes, Array.length_toList] at z1
  exact walk x0 s1 W (lw hsh HL.out) o0 z1

set_option maxRecDepth 100000 in
theorem lifted (os : Os) (started : os.Started) (H : Type) (enc : TypeId × Value → H) :
    ReturnsInHanded {} Tryd.checked os 4 .any (fun w args => (Rows.valueBackSpec.pre enc Tryd.prog Tryd.f4 [] false w args ∧ laidMetH Tryd.prog laidD w) ∧ sizedMet enc Tryd.prog Tryd.f4 (OpenSpec.ofChange Rows.valueBackSpec) false w args)
      (Rows.valueBackSpec.post enc Tryd.prog Tryd.f4 false true false false) := by
  refine Lift.liftedD (C := Tryd.checked) (X := fun w _ => laidMetH Tryd.prog laidD w) (fun _ _ _ hh h => h.of_heap hh) own started (by kernel_rfl) Tryd.func4
    (ChangeSpec.witness_shaped (enc := enc) (C := Tryd.checked) (os := os) (X := fun w _ => laidMetH Tryd.prog laidD w) false (World.laidAll Tryd.prog os laidD) #[.agg #[.int .u8 0, .int .i64 0, .string ByteArray.empty], .string ByteArray.empty] 8 (World.laidAll_os _ _ _)
      (World.shaped_of_ZipB (by kernel_rfl) (by kernel_rfl)) (by kernel_rfl) (by kernel_rfl) (by kernel_rfl)
      (by rw [MakeChecks.laidMetH_plain _ _ _ (by kernel_rfl)]; exact laidMet_laidAll _ (by kernel_rfl) (by kernel_rfl)))
    laid (by rw [Tryd.params4]; intro t ht; simp at ht; rcases ht with rfl | rfl <;> exact ⟨by kernel_rfl, of_decide_eq_true (by kernel_rfl)⟩) rfl 4 rfl Tryd.underlying4
    (fun ds hds => by match ds, hds with | [_, _], _ => rfl) (fun W args ds p hsh hL => opened enc W args ds p hsh hL)

theorem row_said : Rows.ValueBackSaid :=
  OpenClaim.holds_of_wide 4 Tryd.f4 rfl rfl rfl rfl rfl rfl rfl ⟨rfl, rfl, rfl, rfl, rfl⟩ rfl rfl rfl rfl rfl (by kernel_rfl) Tryd.func4 (by kernel_rfl)
    (of_decide_eq_true (by kernel_rfl)) (by unfold Func.isWrapper; first | (rw [if_pos (by decide +kernel)]; kernel_rfl) | (rw [if_neg (by decide +kernel)]; exact ⟨rfl, rfl⟩))
    (fun os started H enc _ => lifted os started H enc)

theorem said : Rows.ValueBackCardSaid :=
  Claim7.holds_tied_plain_at .later [] [.data, .data, .data, .data, .sentinel, .sentinel, .pinned] true (true, "beeeb87dc6d8e7c394a9af8ed07e7d2b6f4d2f56e63b48bb337aad32e36f280c") true
    row_said (fun _ h => by cases h) (by kernel_rfl) (fun _ h => by cases h) valueBack_row_tie rfl ⟨rfl, rfl⟩ (by kernel_rfl) rfl
    (fun f fn hf hfn => by
      obtain rfl : f = 4 := Option.some.inj ((show Tryd.prog.funcNamed "counterfoil/counterfoillaw07.ValueBack" = some 4 by kernel_rfl).symm.trans hf) |>.symm
      obtain rfl : fn = Tryd.f4 := (Option.some.inj (Tryd.func4.symm.trans hfn)).symm
      exact ⟨by kernel_rfl, fun j t ht => by
        rw [Tryd.params4] at ht
        exact tied Tryd.params4.symm (by kernel_rfl) ht⟩)
    (by kernel_rfl)
#print axioms said
end Go.Proofs.YtghfaeapgghhlaaDoor.ValueBack
