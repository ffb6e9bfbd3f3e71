/- LexTokens: the law returns true at every input. -/
import Derived.Test.YtghfaeapgghhlaaDoorLiftD
import Derived.Test.YtghfaeapgghhlaaDoorTie
import Derived.Test.YtghfaeapgghhlaaDoorCards
import Derived.SevenTiedAt
import Derived.Stop.Joined
import Derived.Test.YtghfaeapgghhlaaDoorLexWorks
import Derived.Test.YtghfaeapgghhlaaDoorLexLaid
import Derived.Test.YtghfaeapgghhlaaDoorLexRC
import Derived.Test.YtghfaeapgghhlaaDoorOpen
namespace Go.Proofs.YtghfaeapgghhlaaDoor.LexTokens
open Go.ChangeShapes Go.WideShapes Go.ChangeAt Go.RowKit Go.Proofs.YtghfaeapgghhlaaDoor.By
set_option linter.unusedVariables false
-- laid lx7
/- LexTokens: the tokens of a text are the reference's. No conditions beyond what the row lists. -/
open Go.Proofs.YtghfaeapgghhlaaDoor.Dt
theorem toks_len : ∀ (f : Nat) (b : Nat) (l : List UInt8), l.length ≤ f → ∀ ts, tk b l = .inr ts → ts.length ≤ l.length := fun f b l hf ts h => by
  rcases Nat.lt_or_ge l.length ts.length with h1 | h1
  · exfalso
    have hpos : ∀ i, i < ts.length → ∀ t, ts[i]? = some t → ((b + i : Nat) : Int) ≤ t.a := by
      intro i
      induction i with
      | zero =>
        intro _ t ht
        obtain ⟨p, hp, _⟩ := tk_at f b l hf ts h 0 t ht
        rw [hp]; omega
      | succ i ih =>
        intro hi t ht
        obtain ⟨p, hp, _, hbef, _⟩ := tk_at f b l hf ts h (i + 1) t ht
        obtain ⟨u, hu⟩ : ∃ u, ts[i]? = some u := ⟨ts[i], by simp⟩
        have h2 := ih (by omega) u hu
        have h3 := hbef i u (by omega) hu
        omega
    obtain ⟨t, ht⟩ : ∃ t, ts[l.length]? = some t := ⟨ts[l.length], by simp⟩
    have h2 := hpos l.length h1 t ht
    obtain ⟨p, hp, hlt, _⟩ := tk_at f b l hf ts h l.length t ht
    omega
  · exact h1
theorem toksL_len {l : List UInt8} {ts : List Tk} (h : toksL l = .inr ts) : ts.length ≤ l.length := by
  rw [toksL_eq] at h
  split at h
  · cases h
  · exact toks_len _ 0 l (Nat.le_refl _) ts h
def spX : TR → Int
  | .inl x => (x.1 : Int)
  | .inr _ => 0
def spY : TR → Int
  | .inl x => (x.2 : Int)
  | .inr _ => 0
def spL : TR → List Tk
  | .inl _ => []
  | .inr l => l
theorem post_out {r : TR} {e : Ending} {w : World} (h : toksPost r e w) : ∃ v, e = .returned (.tuple #[v, .agg #[.int .i64 (spX r), .int .i64 (spY r)]]) ∧ TksAt w v (spL r) := by
  cases r with
  | inl x => exact ⟨_, h, SlAt.nil _ _ _⟩
  | inr l =>
    obtain ⟨v, h1, h2⟩ := h
    exact ⟨v, h1, h2⟩
theorem spL_len (s : List UInt8) : (spL (toksL s)).length ≤ s.length := by
  cases h : toksL s with
  | inl x => exact Nat.zero_le _
  | inr l => exact toksL_len h
set_option maxRecDepth 100000 in
set_option maxHeartbeats 16000000 in
theorem walk (s : ByteArray) (w : World) (hw : LX w) (_hs : s.size ≤ 140737488351232) :
    Calls Tryd.prog 7 #[.string s] w fun e w' => e = .returned (.bool true) ∧ Below w.heap.size w w' := by
  have HW := Lib.hid hw
  clear hw _hs
  go_enter Tryd.func7, Tryd.ntmps7
  go_wp2_with fail
  refine (lexWorks w HW.out).mono ?_
  rintro e w1 ⟨rfl, hb1⟩
  have HB1 := Lib.hid hb1
  clear hb1
  by_cases hl : 8192 < s.size
  · have i1 : (8192 : Int) < (s.size : Int) := by omega
    clear hl
    go_wp2_with fail
    go_ret
    exact ⟨rfl, HB1.out⟩
  · have i1 : ¬ (8192 : Int) < (s.size : Int) := by omega
    have HS : Hid (s.size ≤ 1000000) := Lib.hid (by omega)
    clear hl
    have HTK : Hid (∀ W, LX W → Calls Tryd.prog 24 #[.string s] W fun e w' => toksPost (toksL s.data.toList) e w' ∧ Below W.heap.size W w') := Lib.hid (fun W h1 => tokensLexW s W h1 HS.out)
    have HTR : Hid (∀ W, Calls Tryd.prog 25 #[.string s] W fun e w' => toksPost (toksL s.data.toList) e w' ∧ Below W.heap.size W w') := Lib.hid (fun W => refToksW s W HS.out)
    have hll := spL_len s.data.toList
    generalize toksL s.data.toList = r at *
    have HLL : Hid ((spL r).length ≤ 1000000) := Lib.hid (by have h2 := HS.out; rw [bytes_list] at hll; omega)
    clear hll
    have HPO := fun e w => @post_out r e w
    generalize spX r = x at *
    generalize spY r = y at *
    generalize spL r = l at *
    have HPO := Lib.hid HPO
    have HQ : Hid (∀ W, (binOp .eql 43 (.agg #[.int .i64 x, .int .i64 y]) (.agg #[.int .i64 x, .int .i64 y])).run Tryd.prog W = .ok (.bool true) W) := Lib.hid (eq_toldS _ _ _ _ true (by simp))
    go_wp2_with fail
    refine (HTK.out w1 (HW.out.later HB1.out)).mono ?_
    rintro e w2 ⟨hp, hb2⟩
    obtain ⟨v, rfl, hat⟩ := HPO.out _ _ hp
    have hba : Below w2.heap.size w2 (w2.alloc (.cells #[.int .i64 x, .int .i64 y] 43)) := (Below.refl _ _).alloc (Nat.le_refl _) _
    have HB2 := Lib.hid (next (next HB1.out hb2) hba)
    have HA := Lib.hid (SlAt.below hat hba)
    clear hb2 hp hat i1 hba
    go_upto_region 6 with fail
    have y0 : (w2.alloc (.cells #[.int .i64 x, .int .i64 y] 43)).cell? ⟨w2.heap.size, 0, none⟩ = some (.int .i64 x) := by go_simp
    have y1 : (w2.alloc (.cells #[.int .i64 x, .int .i64 y] 43)).cell? ⟨w2.heap.size, 1, none⟩ = some (.int .i64 y) := by go_simp
    have HY := Lib.hid (And.intro y0 y1)
    clear y0 y1
    generalize (w2.alloc (.cells #[.int .i64 x, .int .i64 y] 43)) = w3 at *
    generalize w2.heap.size = b at *
    go_wp2_with fail
    refine (HTR.out w3).mono ?_
    rintro e w4 ⟨hp, hb4⟩
    obtain ⟨v', rfl, hat⟩ := HPO.out _ _ hp
    have hba : Below w4.heap.size w4 (w4.alloc (.cells #[.int .i64 x, .int .i64 y] 43)) := (Below.refl _ _).alloc (Nat.le_refl _) _
    have HB4 := Lib.hid (next hb4 hba)
    have HA' := Lib.hid (SlAt.below hat hba)
    clear hb4 hp hat hba
    go_upto_region 7 with fail
    have y0 : (w4.alloc (.cells #[.int .i64 x, .int .i64 y] 43)).cell? ⟨w4.heap.size, 0, none⟩ = some (.int .i64 x) := by go_simp
    have y1 : (w4.alloc (.cells #[.int .i64 x, .int .i64 y] 43)).cell? ⟨w4.heap.size, 1, none⟩ = some (.int .i64 y) := by go_simp
    have HZ := Lib.hid (And.intro y0 y1)
    clear y0 y1
    generalize (w4.alloc (.cells #[.int .i64 x, .int .i64 y] 43)) = w5 at *
    generalize w4.heap.size = b' at *
    go_wp2_with fail
    refine (tkEqW v v' l w5 HLL.out (SlAt.below HA.out HB4.out) HA'.out).mono ?_
    rintro e w6 ⟨rfl, hb6⟩
    have c0 := ((HB4.out.trans (hb6.mono HB4.out.size)).cell (cell_lt HY.out.1)).trans HY.out.1
    have c1 := ((HB4.out.trans (hb6.mono HB4.out.size)).cell (cell_lt HY.out.2)).trans HY.out.2
    have d0 := (hb6.cell (cell_lt HZ.out.1)).trans HZ.out.1
    have d1 := (hb6.cell (cell_lt HZ.out.2)).trans HZ.out.2
    have HB6 := Lib.hid (next HB2.out (next HB4.out hb6))
    have hq := HQ.out
    clear hb6
    go_wp2_with fail
    go_ret
    exact ⟨rfl, HB6.out⟩

theorem own : ownKnob Tryd.prog.godebug = none := by kernel_rfl
theorem laid : laidOutB Tryd.prog = true := by kernel_rfl
def laidD : List (String × DataW Unit) := [("math/bits.deBruijn32tab", Rows.laid_math_bits_deBruijn32tab), ("math/bits.deBruijn64tab", Rows.laid_math_bits_deBruijn64tab), ("internal/strconv.uint64pow10", Rows.laid_internal_strconv_uint64pow10), ("strconv.ErrRange", Rows.laid_strconv_ErrRange), ("strconv.ErrSyntax", Rows.laid_strconv_ErrSyntax), ("unicode.White_Space", Rows.laid_unicode_White_Space), ("strings.asciiSpace", Rows.laid_strings_asciiSpace)]
theorem tied {ps qs : Array TypeId} {j : Nat} {t : TypeId} (_ : ps = qs) (hall : (ps.all fun u => !Tryd.prog.wantsStandIn u) = true) (ht : ps[j]? = some t) : Tryd.prog.wantsStandIn t = false := by
  obtain ⟨hj, rfl⟩ := Array.getElem?_eq_some_iff.1 ht
  have := Array.all_eq_true.1 hall j hj
  simpa using this

set_option maxRecDepth 100000 in
theorem opened {H : Type} (enc : TypeId × Value → H) (W : World) (args : Array Value) (ds : List (DataW H)) (p : List MemPlace) (hsh : W.ShapedOpen Tryd.prog) (hL : laidMetH Tryd.prog laidD W) :
    Lift.Owes enc Tryd.prog 7 Tryd.f7.params.toList W args ds p := by
  have HL := Lib.hid hL
  clear hL
  intro hA hval hsz _
  rw [Tryd.params7] at hA hval hsz
  obtain ⟨v0, vs0, d0, ds0, p0, q0, hargs, rfl, rfl, h0, r0⟩ := trodAll_cons hA
  obtain ⟨rfl, rfl, rfl⟩ := trodAll_nil r0
  obtain rfl : args = #[v0] := by cases args; simp_all
  obtain ⟨base0, hv0⟩ := hval 0 _ v0 rfl rfl
  obtain ⟨s0, rfl, rfl, rfl, ws0⟩ := ChangeMaps.open_string Tryd.underlying9 hv0 h0
  have z0 := sized_string hsz (j := 0) rfl rfl
  simp only [reachBytes, Array.length_toList] at z0
  exact walk s0 W (lx7 hsh HL.out) z0

set_option maxRecDepth 100000 in
theorem lifted (os : Os) (started : os.Started) (H : Type) (enc : TypeId × Value → H) :
    ReturnsInHanded {} Tryd.checked os 7 .any (fun w args => (Rows.lexTokensSpec.pre enc Tryd.prog Tryd.f7 [] false w args ∧ laidMetH Tryd.prog laidD w) ∧ sizedMet enc Tryd.prog Tryd.f7 (OpenSpec.ofChange Rows.lexTokensSpec) false w args)
      (Rows.lexTokensSpec.post enc Tryd.prog Tryd.f7 false true false false) := by
  refine Lift.liftedD (C := Tryd.checked) (X := fun w _ => laidMetH Tryd.prog laidD w) (fun _ _ _ hh h => h.of_heap hh) own started (by kernel_rfl) Tryd.func7
    (ChangeSpec.witness_shaped (enc := enc) (C := Tryd.checked) (os := os) (X := fun w _ => laidMetH Tryd.prog laidD w) false (World.laidAll Tryd.prog os laidD) #[.string ByteArray.empty] 8 (World.laidAll_os _ _ _)
      (World.shaped_of_ZipB (by kernel_rfl) (by kernel_rfl)) (by kernel_rfl) (by kernel_rfl) (by kernel_rfl)
      (by rw [MakeChecks.laidMetH_plain _ _ _ (by kernel_rfl)]; exact laidMet_laidAll _ (by kernel_rfl) (by kernel_rfl)))
    laid (by rw [Tryd.params7]; intro t ht; simp at ht; rcases ht with rfl <;> exact ⟨by kernel_rfl, of_decide_eq_true (by kernel_rfl)⟩) rfl 4 rfl Tryd.underlying4
    (fun ds hds => by match ds, hds with | [_], _ => rfl) (fun W args ds p hsh hL => opened enc W args ds p hsh hL)

theorem row_said : Rows.LexTokensSaid :=
  OpenClaim.holds_of_wide 7 Tryd.f7 rfl rfl rfl rfl rfl rfl rfl ⟨rfl, rfl, rfl, rfl, rfl⟩ rfl rfl rfl rfl rfl (by kernel_rfl) Tryd.func7 (by kernel_rfl)
    (of_decide_eq_true (by kernel_rfl)) (by unfold Func.isWrapper; first | (rw [if_pos (by decide +kernel)]; kernel_rfl) | (rw [if_neg (by decide +kernel)]; exact ⟨rfl, rfl⟩))
    (fun os started H enc _ => lifted os started H enc)

theorem said : Rows.LexTokensCardSaid :=
  Claim7.holds_tied_plain_at .later [] [.data, .data, .data, .sentinel, .sentinel, .listed, .data] true (true, "beeeb87dc6d8e7c394a9af8ed07e7d2b6f4d2f56e63b48bb337aad32e36f280c") true
    row_said (fun _ h => by cases h) (by kernel_rfl) (fun _ h => by cases h) lexTokens_row_tie rfl ⟨rfl, rfl⟩ (by kernel_rfl) rfl
    (fun f fn hf hfn => by
      obtain rfl : f = 7 := Option.some.inj ((show Tryd.prog.funcNamed "counterfoil/counterfoillaw13.LexTokens" = some 7 by kernel_rfl).symm.trans hf) |>.symm
      obtain rfl : fn = Tryd.f7 := (Option.some.inj (Tryd.func7.symm.trans hfn)).symm
      exact ⟨by kernel_rfl, fun j t ht => by
        rw [Tryd.params7] at ht
        exact tied Tryd.params7.symm (by kernel_rfl) ht⟩)
    (by kernel_rfl)
#print axioms said
end Go.Proofs.YtghfaeapgghhlaaDoor.LexTokens
