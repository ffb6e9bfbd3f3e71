/- LexBack: the law returns true at every input. -/
import Derived.Test.YtghfaeapgghhlaaDoorLiftD
import Derived.Test.YtghfaeapgghhlaaDoorTie
import Derived.Test.YtghfaeapgghhlaaDoorCards
import Derived.SevenTiedAt
import Derived.Stop.Joined
import Derived.Test.YtghfaeapgghhlaaDoorLexWorks
import Derived.Test.YtghfaeapgghhlaaDoorLexLaid
import Derived.Test.YtghfaeapgghhlaaDoorLexPut
import Derived.Test.YtghfaeapgghhlaaDoorOpen
namespace Go.Proofs.YtghfaeapgghhlaaDoor.LexBack
open Go.ChangeShapes Go.WideShapes Go.ChangeAt Go.RowKit Go.Proofs.YtghfaeapgghhlaaDoor.By
set_option linter.unusedVariables false
-- laid lx9
/- LexBack: tokens that are written are read as they were; tokens that were read are written, and read again. No conditions beyond what the row lists. -/
open Go.Proofs.YtghfaeapgghhlaaDoor.Dt
set_option maxRecDepth 100000 in
set_option maxHeartbeats 16000000 in
theorem walk (lv : Value) (l : List Tk) (s : ByteArray) (w : World) (hw : LX w) (ha : TksAt w lv l) (ho : ∀ t ∈ l, t.ok) (hl : l.length ≤ 140737488351232) (_hs : s.size ≤ 140737488351232) :
    Calls Tryd.prog 8 #[lv, .string s] w fun e w' => e = .returned (.bool true) ∧ Below w.heap.size w w' := by
  obtain ⟨ar, cr, rfl⟩ := ha.shape
  have HW := Lib.hid hw
  have HA := Lib.hid ha
  have HO := Lib.hid ho
  have HL := Lib.hid hl
  clear hw ha ho hl _hs
  have HTK : Hid (∀ (x : ByteArray) W, LX W → x.size ≤ 1000000 → Calls Tryd.prog 24 #[.string x] W fun e w' => toksPost (toksL x.data.toList) e w' ∧ Below W.heap.size W w') := Lib.hid (fun x W h1 h2 => tokensLexW x W h1 h2)
  have HQ0 : Hid (∀ W, (binOp .neq 43 (.agg #[.int .i64 0, .int .i64 0]) (.agg #[.int .i64 0, .int .i64 0])).run Tryd.prog W = .ok (.bool false) W) := Lib.hid (neq_toldS _ _ _ _ false (by simp))
  have HQ1 : Hid (∀ W, (binOp .eql 43 (.agg #[.int .i64 0, .int .i64 0]) (.agg #[.int .i64 0, .int .i64 0])).run Tryd.prog W = .ok (.bool true) W) := Lib.hid (eq_toldS _ _ _ _ true (by simp))
  go_enter Tryd.func8, Tryd.ntmps8
  go_wp2_with fail
  refine (lexWorks w HW.out).mono ?_
  rintro e w1 ⟨rfl, hb1⟩
  have HB1 := Lib.hid hb1
  clear hb1
  go_wp2_with fail
  refine (longT _ l w1 (HA.out.below HB1.out) HL.out).mono ?_
  rintro e w2 ⟨hr, hb2⟩
  have HB2 := Lib.hid (next HB1.out hb2)
  clear hb2
  rcases hr with rfl | ⟨rfl, h400, hsz⟩
  · go_wp2_with fail
    go_ret
    exact ⟨rfl, HB2.out⟩
  have H400 := Lib.hid h400
  clear h400 hsz
  by_cases h8 : 8192 < s.size
  · have i1 : (8192 : Int) < (s.size : Int) := by omega
    clear h8
    go_wp2_with fail
    go_ret
    exact ⟨rfl, HB2.out⟩
  have HS : Hid (s.size ≤ 8192) := Lib.hid (by omega)
  have i1 : ¬ (8192 : Int) < (s.size : Int) := by omega
  clear h8
  go_wp2_with fail
  have hwr := writeW (.slice ar l.length cr) l w2 (HW.out.later HB2.out) (HA.out.below HB2.out) (fun t ht => (HO.out t ht).2.2.1) (by have := H400.out; omega)
  obtain ⟨S, hS⟩ : ∃ S : ByteArray, S = ⟨(writeL l).1.toArray⟩ := ⟨_, rfl⟩
  obtain ⟨code, hcode⟩ : ∃ code, code = (writeL l).2 := ⟨_, rfl⟩
  have hpre : code = 0 → (∀ t ∈ l, okT t) ∧ S.data.toList = joinL (l.map textT) := by
    rw [hcode, hS]
    unfold writeL
    split
    · rename_i h; exact fun _ => ⟨h, rfl⟩
    · intro h; cases h
  rw [show str (writeL l).1 = .string S by rw [hS], ← hcode] at hwr
  have HPRE := Lib.hid hpre
  clear hS hcode hpre i1
  refine hwr.mono ?_
  rintro e w3 ⟨rfl, hb3⟩
  have HB3 := Lib.hid (next HB2.out hb3)
  clear hb3 hwr
  obtain ⟨B, hB⟩ : ∃ B, B = decide (code = 0 ∧ S.size ≤ 4096) := ⟨_, rfl⟩
  have HBB := Lib.hid hB
  clear hB
  go_upto_region 6 with fail
  go_cut [32] (fun v wx => v = .bool B ∧ w3 = wx)
  case first =>
    by_cases hc : code = 0
    · subst hc
      by_cases hz : S.size ≤ 4096
      · obtain rfl : B = true := by rw [HBB.out]; simp [hz]
        have i1 : (S.size : Int) ≤ 4096 := by omega
        clear hz
        go_wp2_with fail
        go_meet
        exact ⟨rfl, rfl⟩
      · obtain rfl : B = false := by rw [HBB.out]; simp [hz]
        have i1 : ¬ (S.size : Int) ≤ 4096 := by omega
        clear hz
        go_wp2_with fail
        go_meet
        exact ⟨rfl, rfl⟩
    · obtain rfl : B = false := by rw [HBB.out]; simp [hc]
      have e1 : ((code : Int) == 0) = false := by first | (simp; done) | (simp; omega)
      have e2 : ((code : Int) != 0) = true := by first | (simp; done) | (simp; omega)
      clear hc
      go_wp2_with fail
      go_meet
      exact ⟨rfl, rfl⟩
  obtain ⟨rfl, rfl⟩ := hcut
  go_upto_if 32 with fail
  go_cut [] (fun wx => Hid (Below w.heap.size w wx))
  case first =>
    cases B with
    | false =>
      go_wp2_with fail
      go_meet
      exact HB3
    | true =>
      have hbb := HBB.out
      simp only [Bool.true_eq, decide_eq_true_eq] at hbb
      obtain ⟨hc, hz⟩ := hbb
      obtain ⟨hok, hSl⟩ := HPRE.out hc
      obtain ⟨m, hm, hsm⟩ := back_read hok (by rw [← hSl, bytes_list]; exact hz)
      rw [← hSl] at hm
      have HM := Lib.hid hm
      have HSM := Lib.hid hsm
      have HZ := Lib.hid hz
      have HML : Hid (m.length ≤ 1000000) := Lib.hid (by rw [sameL_len hsm]; have := H400.out; omega)
      clear hc hz hok hSl hm hsm
      go_wp2_with fail
      refine (HTK.out S w3 (HW.out.later HB3.out) (by have := HZ.out; omega)).mono ?_
      rintro e w4 ⟨hp, hb4⟩
      rw [HM.out] at hp
      obtain ⟨v, rfl, hat⟩ := hp
      have hba : Below w4.heap.size w4 (w4.alloc (.cells #[.int .i64 0, .int .i64 0] 43)) := (Below.refl _ _).alloc (Nat.le_refl _) _
      have HB5 := Lib.hid (next (next HB3.out hb4) hba)
      have HA5 := Lib.hid (SlAt.below hat hba)
      clear hb4 hat hba
      go_upto_region 8 with fail
      have z0 : (w4.alloc (.cells #[.int .i64 0, .int .i64 0] 43)).cell? ⟨w4.heap.size, 0, none⟩ = some (.int .i64 0) := by go_simp
      have z1 : (w4.alloc (.cells #[.int .i64 0, .int .i64 0] 43)).cell? ⟨w4.heap.size, 1, none⟩ = some (.int .i64 0) := by go_simp
      generalize w4.alloc (.cells #[.int .i64 0, .int .i64 0] 43) = w5 at *
      generalize w4.heap.size = q at *
      have hq := HQ0.out
      go_wp2_with fail
      refine (sameW _ _ m l w5 HML.out HA5.out (HA.out.below HB5.out) HSM.out).mono ?_
      rintro e w6 ⟨rfl, hb6⟩
      have HB6 := Lib.hid (next HB5.out hb6)
      clear hb6
      go_wp2_with fail
      go_meet
      exact HB6
  rename World => wa
  have HBA := hcut
  clear hcut HB3 HBB HPRE
  go_wp2_with fail
  refine (HTK.out s wa (HW.out.later HBA.out) (by have := HS.out; omega)).mono ?_
  rintro e wb ⟨hp, hbb⟩
  have HBB := Lib.hid (next HBA.out hbb)
  clear hbb
  cases hT : toksL s.data.toList with
  | inl x =>
    obtain ⟨er, at'⟩ := x
    rw [hT] at hp
    obtain ⟨h1, -⟩ := spot_bad hT
    obtain rfl : e = .returned (.tuple #[.slice none 0 0, .agg #[.int .i64 (er : Int), .int .i64 (at' : Int)]]) := hp
    have hq : ∀ W, (binOp .neq 43 (.agg #[.int .i64 (er : Int), .int .i64 (at' : Int)]) (.agg #[.int .i64 0, .int .i64 0])).run Tryd.prog W = .ok (.bool true) W := neq_toldS _ _ _ _ true (by simp; omega)
    clear h1 hT
    go_wp2_with fail
    go_ret
    exact ⟨rfl, HBB.out.alloc HBB.out.size _⟩
  | inr ts =>
    rw [hT] at hp
    obtain ⟨v, rfl, hat⟩ := hp
    obtain ⟨av, cv, rfl⟩ := hat.shape
    have HT := Lib.hid hT
    have HTL : Hid (ts.length ≤ 1000000) := Lib.hid (by have h1 := toksL_le hT; have h2 := HS.out; rw [bytes_list] at h1; omega)
    have hba : Below wb.heap.size wb (wb.alloc (.cells #[.int .i64 0, .int .i64 0] 43)) := (Below.refl _ _).alloc (Nat.le_refl _) _
    have HBC := Lib.hid (next HBB.out hba)
    have HAC := Lib.hid (SlAt.below hat hba)
    clear hT hat hba
    go_upto_region 11 with fail
    have z0 : (wb.alloc (.cells #[.int .i64 0, .int .i64 0] 43)).cell? ⟨wb.heap.size, 0, none⟩ = some (.int .i64 0) := by go_simp
    have z1 : (wb.alloc (.cells #[.int .i64 0, .int .i64 0] 43)).cell? ⟨wb.heap.size, 1, none⟩ = some (.int .i64 0) := by go_simp
    have f0 : (wb.alloc (.cells #[.int .i64 0, .int .i64 0] 43)).frozen? ⟨wb.heap.size, 0, none⟩ = false := by go_simp
    have f1 : (wb.alloc (.cells #[.int .i64 0, .int .i64 0] 43)).frozen? ⟨wb.heap.size, 1, none⟩ = false := by go_simp
    have HQB : Hid (w.heap.size ≤ wb.heap.size) := Lib.hid HBB.out.size
    generalize wb.alloc (.cells #[.int .i64 0, .int .i64 0] 43) = wc at *
    generalize wb.heap.size = q at *
    have HF : Hid (Box q [.int .i64 0, .int .i64 0] wc) := Lib.hid (by
      intro i u hu
      rcases i with _ | _ | i <;> simp at hu <;> subst hu
      · exact ⟨z0, f0⟩
      · exact ⟨z1, f1⟩)
    have hq := HQ0.out
    clear f0 f1
    have hwr := writeW (.slice av ts.length cv) ts wc (HW.out.later HBC.out) HAC.out (fun t ht => by have := (read_ok HT.out t ht).2.1; omega) HTL.out
    have hall : ∀ t ∈ ts, okT t := fun t ht => (read_ok HT.out t ht).1
    rw [write_ok hall] at hwr
    obtain ⟨S2, hS2⟩ : ∃ S : ByteArray, S = ⟨(joinL (ts.map textT)).toArray⟩ := ⟨_, rfl⟩
    rw [show str (joinL (ts.map textT)) = .string S2 by rw [hS2]] at hwr
    have hSl : S2.data.toList = joinL (ts.map textT) := by rw [hS2]
    have HSL := Lib.hid hSl
    have HALL := Lib.hid hall
    have HWR := Lib.hid hwr
    clear hall hS2 hSl hwr
    go_wp2_with fail
    clear hq z0 z1
    refine HWR.out.mono ?_
    rintro e wd ⟨rfl, hbd⟩
    have HBD := Lib.hid (next HBC.out hbd)
    have HAD := Lib.hid (SlAt.below HAC.out hbd)
    have HFD := Lib.hid (HF.out.later hbd)
    clear hbd HWR
    by_cases hz : S2.size ≤ 4096
    · have i1 : ¬ (4096 : Int) < (S2.size : Int) := by omega
      obtain ⟨m, hm, hsm⟩ := back_read HALL.out (by rw [← HSL.out, bytes_list]; exact hz)
      rw [← HSL.out] at hm
      have HM := Lib.hid hm
      have HSM := Lib.hid hsm
      have HZ := Lib.hid hz
      have HML : Hid (m.length ≤ 1000000) := Lib.hid (by rw [sameL_len hsm]; exact HTL.out)
      clear hz hm hsm
      go_wp2_with fail
      clear i1
      refine (HTK.out S2 wd (HW.out.later HBD.out) (by have := HZ.out; omega)).mono ?_
      rintro e we ⟨hp, hbe⟩
      rw [HM.out] at hp
      obtain ⟨v2, rfl, hat2⟩ := hp
      have HBE := Lib.hid (next HBD.out hbe)
      have HAE := Lib.hid (SlAt.below HAD.out hbe)
      have HFE := Lib.hid (HFD.out.later hbe)
      have c0 := (HFE.out 0 _ rfl).1
      have c1 := (HFE.out 1 _ rfl).1
      have f0 := (HFE.out 0 _ rfl).2
      have f1 := (HFE.out 1 _ rfl).2
      clear hbe
      go_upto_region 17 with fail
      rw [setCell_id c0, setCell_id c1]
      have HA2 := Lib.hid hat2
      have hq := HQ1.out
      clear hat2 f0 f1
      go_wp2_with fail
      refine (sameW _ _ m ts we HML.out HA2.out HAE.out HSM.out).mono ?_
      rintro e wf ⟨rfl, hbf⟩
      have HBF := Lib.hid (next HBE.out hbf)
      clear hbf
      go_wp2_with fail
      go_ret
      exact ⟨rfl, HBF.out⟩
    · have i1 : (4096 : Int) < (S2.size : Int) := by omega
      clear hz
      go_wp2_with fail
      go_ret
      exact ⟨rfl, HBD.out⟩

theorem own : ownKnob Tryd.prog.godebug = none := by kernel_rfl
theorem laid : laidOutB Tryd.prog = true := by kernel_rfl
def laidD : List (String × DataW Unit) := [("math/bits.deBruijn32tab", Rows.laid_math_bits_deBruijn32tab), ("math/bits.deBruijn64tab", Rows.laid_math_bits_deBruijn64tab), ("internal/strconv.uint64pow10", Rows.laid_internal_strconv_uint64pow10), ("unicode/utf8.acceptRanges", Rows.laid_unicode_utf8_acceptRanges), ("strconv.ErrRange", Rows.laid_strconv_ErrRange), ("strconv.ErrSyntax", Rows.laid_strconv_ErrSyntax), ("unicode.White_Space", Rows.laid_unicode_White_Space), ("strings.asciiSpace", Rows.laid_strings_asciiSpace), ("unicode/utf8.first", Rows.laid_unicode_utf8_first)]
theorem tied {ps qs : Array TypeId} {j : Nat} {t : TypeId} (_ : ps = qs) (hall : (ps.all fun u => !Tryd.prog.wantsStandIn u) = true) (ht : ps[j]? = some t) : Tryd.prog.wantsStandIn t = false := by
  obtain ⟨hj, rfl⟩ := Array.getElem?_eq_some_iff.1 ht
  have := Array.all_eq_true.1 hall j hj
  simpa using this

set_option maxRecDepth 100000 in
theorem opened {H : Type} (enc : TypeId × Value → H) (W : World) (args : Array Value) (ds : List (DataW H)) (p : List MemPlace) (hsh : W.ShapedOpen Tryd.prog) (hL : laidMetH Tryd.prog laidD W) :
    Lift.Owes enc Tryd.prog 8 Tryd.f8.params.toList W args ds p := by
  have HL := Lib.hid hL
  clear hL
  intro hA hval hsz _
  rw [Tryd.params8] at hA hval hsz
  obtain ⟨v0, vs0, d0, ds0, p0, q0, hargs, rfl, rfl, h0, r0⟩ := trodAll_cons hA
  obtain ⟨v1, vs1, d1, ds1, p1, q1, rfl, rfl, rfl, h1, r1⟩ := trodAll_cons r0
  obtain ⟨rfl, rfl, rfl⟩ := trodAll_nil r1
  obtain rfl : args = #[v0, v1] := by cases args; simp_all
  obtain ⟨base0, hv0⟩ := hval 0 _ v0 rfl rfl
  obtain ⟨X0, a0, o0, l0⟩ := arg_Ts tkT (by kernel_rfl) hv0 h0 (lim_arg hsz (j := 0) rfl rfl)
  obtain ⟨base1, hv1⟩ := hval 1 _ v1 rfl rfl
  obtain ⟨s1, rfl, rfl, rfl, ws1⟩ := ChangeMaps.open_string Tryd.underlying9 hv1 h1
  have z1 := sized_string hsz (j := 1) rfl rfl
  simp only [reachBytes, Array.length_toList] at z1
  exact walk v0 X0 s1 W (lx9 hsh HL.out) a0 o0 (by omega) z1

set_option maxRecDepth 100000 in
theorem lifted (os : Os) (started : os.Started) (H : Type) (enc : TypeId × Value → H) :
    ReturnsInHanded {} Tryd.checked os 8 .any (fun w args => (Rows.lexBackSpec.pre enc Tryd.prog Tryd.f8 [] false w args ∧ laidMetH Tryd.prog laidD w) ∧ sizedMet enc Tryd.prog Tryd.f8 (OpenSpec.ofChange Rows.lexBackSpec) false w args)
      (Rows.lexBackSpec.post enc Tryd.prog Tryd.f8 false true false false) := by
  refine Lift.liftedD (C := Tryd.checked) (X := fun w _ => laidMetH Tryd.prog laidD w) (fun _ _ _ hh h => h.of_heap hh) own started (by kernel_rfl) Tryd.func8
    (ChangeSpec.witness_shaped (enc := enc) (C := Tryd.checked) (os := os) (X := fun w _ => laidMetH Tryd.prog laidD w) false (World.laidAll Tryd.prog os laidD) #[.slice none 0 0, .string ByteArray.empty] 8 (World.laidAll_os _ _ _)
      (World.shaped_of_ZipB (by kernel_rfl) (by kernel_rfl)) (by kernel_rfl) (by kernel_rfl) (by kernel_rfl)
      (by rw [MakeChecks.laidMetH_plain _ _ _ (by kernel_rfl)]; exact laidMet_laidAll _ (by kernel_rfl) (by kernel_rfl)))
    laid (by rw [Tryd.params8]; intro t ht; simp at ht; rcases ht with rfl | rfl <;> exact ⟨by kernel_rfl, of_decide_eq_true (by kernel_rfl)⟩) rfl 4 rfl Tryd.underlying4
    (fun ds hds => by match ds, hds with | [_, _], _ => rfl) (fun W args ds p hsh hL => opened enc W args ds p hsh hL)

theorem row_said : Rows.LexBackSaid :=
  OpenClaim.holds_of_wide 8 Tryd.f8 rfl rfl rfl rfl rfl rfl rfl ⟨rfl, rfl, rfl, rfl, rfl⟩ rfl rfl rfl rfl rfl (by kernel_rfl) Tryd.func8 (by kernel_rfl)
    (of_decide_eq_true (by kernel_rfl)) (by unfold Func.isWrapper; first | (rw [if_pos (by decide +kernel)]; kernel_rfl) | (rw [if_neg (by decide +kernel)]; exact ⟨rfl, rfl⟩))
    (fun os started H enc _ => lifted os started H enc)

theorem said : Rows.LexBackCardSaid :=
  Claim7.holds_tied_plain_at .later [] [.data, .data, .data, .data, .sentinel, .sentinel, .listed, .data, .pinned] true (true, "beeeb87dc6d8e7c394a9af8ed07e7d2b6f4d2f56e63b48bb337aad32e36f280c") true
    row_said (fun _ h => by cases h) (by kernel_rfl) (fun _ h => by cases h) lexBack_row_tie rfl ⟨rfl, rfl⟩ (by kernel_rfl) rfl
    (fun f fn hf hfn => by
      obtain rfl : f = 8 := Option.some.inj ((show Tryd.prog.funcNamed "counterfoil/counterfoillaw13.LexBack" = some 8 by kernel_rfl).symm.trans hf) |>.symm
      obtain rfl : fn = Tryd.f8 := (Option.some.inj (Tryd.func8.symm.trans hfn)).symm
      exact ⟨by kernel_rfl, fun j t ht => by
        rw [Tryd.params8] at ht
        exact tied Tryd.params8.symm (by kernel_rfl) ht⟩)
    (by kernel_rfl)
#print axioms said
end Go.Proofs.YtghfaeapgghhlaaDoor.LexBack
