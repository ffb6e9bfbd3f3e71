/- KeyKnown: the document's examples of keys. No conditions beyond what the row lists. -/
import Derived.Test.YtcimipebpfajgaaDoorLiftD
import Derived.Test.YtcimipebpfajgaaDoorTie
import Derived.Test.YtcimipebpfajgaaDoorCards
import Derived.SevenTiedAt
import Derived.Stop.Joined
import Derived.Test.YtcimipebpfajgaaDoorKeyFirstTop
import Derived.Test.YtcimipebpfajgaaDoorKeyNextW
import Derived.Test.YtcimipebpfajgaaDoorRowsCap
import Derived.Test.YtcimipebpfajgaaDoorKeyMax
import Derived.Test.YtcimipebpfajgaaDoorValueB
namespace Go.Proofs.YtcimipebpfajgaaDoor.KeyKnown
open Go.ChangeShapes Go.WideShapes Go.ChangeAt Go.RowKit Go.Proofs.YtcimipebpfajgaaDoor.By
set_option linter.unusedVariables false
open Go.Proofs.YtcimipebpfajgaaDoor.Dt
theorem put_lit (rv : Value) (row : List V) (key : List UInt8) (w : World) (hm : MaxAt w) (hat : VsAt w rv row) (hk : errK row = 0) (ha : allK row = key) (hok : ∀ v ∈ row, v.ok) (hl : row.length ≤ 1000000) :
    Calls Tryd.prog 4 #[rv] w fun e w' => e = .returned (.tuple #[str key, .int .i64 0]) ∧ Below w.heap.size w w' := by
  have h := putW rv row w hm hat hok hl
  rw [hk, if_pos rfl, ha] at h
  exact h
theorem one_at (W : World) (a : V) : VsAt (W.alloc (.cells #[.int .u8 (a.k : Int), .int .i64 a.n, .string a.s] 26)) (.slice (some ⟨W.heap.size, 0, none⟩) 1 1) [a] := by
  refine ⟨_, _, rfl, Nat.le_refl _, fun i x hx => ⟨W.heap.size, 0, rfl, fun j u hu => ?_⟩⟩
  rcases i with _ | i <;> simp at hx <;> subst hx <;> (rcases j with _ | _ | _ | j <;> simp [V.cells] at hu <;> subst hu <;> go_simp)
def kA : V := ⟨1, -1, ⟨#[]⟩⟩
def kB : V := ⟨2, 0, ⟨#[97]⟩⟩
def kC : V := ⟨3, 0, ⟨#[0]⟩⟩
def kN : V := ⟨0, 0, ⟨#[]⟩⟩
set_option maxRecDepth 100000 in
set_option maxHeartbeats 16000000 in
theorem walk (w : World) (hm : MaxAt w) :
    Calls Tryd.prog 3 #[] w fun e w' => e = .returned (.bool true) ∧ Below w.heap.size w w' := by
  have HM := Lib.hid hm
  clear hm
  go_enter Tryd.func3, Tryd.ntmps3
  go_wp2_with fail
  refine (put_lit (.slice none 0 0) [] [] w HM.out (SlAt.nil _ _ _) rfl rfl (fun v hv => by simp at hv) (by simp)).mono ?_
  rintro e w1 ⟨rfl, hb1⟩
  have HB1 := Lib.hid hb1
  clear hb1
  go_wp2_with fail
  have ha1 : Below w.heap.size w (w1.alloc (.cells #[.int .u8 (kN.k : Int), .int .i64 kN.n, .string kN.s] 26)) := HB1.out.alloc HB1.out.size _
  refine (put_lit (.slice (some ⟨w1.heap.size, 0, none⟩) 1 1) [kN] [1] (w1.alloc (.cells #[.int .u8 (kN.k : Int), .int .i64 kN.n, .string kN.s] 26)) (HM.out.later ha1) (one_at w1 kN) (by kernel_rfl) (by kernel_rfl) (fun v hv => by rw [List.mem_singleton.1 hv]; exact of_decide_eq_true (by kernel_rfl)) (by simp)).mono ?_
  rintro e w2 ⟨rfl, hb2⟩
  have HB2 := Lib.hid (next ha1 hb2)
  clear hb2 ha1 HB1
  go_wp2_with fail
  have ha1 : Below w.heap.size w (w2.alloc (.cells #[.int .u8 (kA.k : Int), .int .i64 kA.n, .string kA.s] 26)) := HB2.out.alloc HB2.out.size _
  refine (put_lit (.slice (some ⟨w2.heap.size, 0, none⟩) 1 1) [kA] [2, 127, 255, 255, 255, 255, 255, 255, 255] (w2.alloc (.cells #[.int .u8 (kA.k : Int), .int .i64 kA.n, .string kA.s] 26)) (HM.out.later ha1) (one_at w2 kA) (by kernel_rfl) (by kernel_rfl) (fun v hv => by rw [List.mem_singleton.1 hv]; exact of_decide_eq_true (by kernel_rfl)) (by simp)).mono ?_
  rintro e w3 ⟨rfl, hb3⟩
  have HB3 := Lib.hid (next ha1 hb3)
  clear hb3 ha1 HB2
  go_wp2_with fail
  have ha1 : Below w.heap.size w (w3.alloc (.cells #[.int .u8 (kB.k : Int), .int .i64 kB.n, .string kB.s, .int .u8 (kC.k : Int), .int .i64 kC.n, .string kC.s] 26)) := HB3.out.alloc HB3.out.size _
  refine (put_lit (.slice (some ⟨w3.heap.size, 0, none⟩) 2 2) [kB, kC] [3, 97, 0, 0, 4, 0, 255, 0, 0] (w3.alloc (.cells #[.int .u8 (kB.k : Int), .int .i64 kB.n, .string kB.s, .int .u8 (kC.k : Int), .int .i64 kC.n, .string kC.s] 26)) (HM.out.later ha1) (pair_at w3 kB kC) (by kernel_rfl) (by kernel_rfl) (fun v hv => by
    simp only [List.mem_cons, List.not_mem_nil, or_false] at hv
    rcases hv with rfl | rfl <;> exact of_decide_eq_true (by kernel_rfl)) (by simp)).mono ?_
  rintro e w4 ⟨rfl, hb4⟩
  have HB4 := Lib.hid (next ha1 hb4)
  clear hb4 ha1 HB3
  go_wp2_with fail
  refine (works w4 (HM.out.later HB4.out)).mono ?_
  rintro e w5 ⟨rfl, hb5⟩
  have HB5 := Lib.hid (next HB4.out hb5)
  clear hb5 HB4
  go_wp2_with fail
  have htk : takeK (ByteArray.mk #[3, 97, 0, 0, 1]).data.toList = some [kB, kN] := by kernel_rfl
  refine (takeW ⟨#[3, 97, 0, 0, 1]⟩ w5 (by decide)).mono ?_
  rintro e w6 ⟨⟨v, hv⟩, hb6⟩
  have HB6 := Lib.hid (next HB5.out hb6)
  rw [htk] at hv
  clear hb6 HB5 htk
  rcases hv with ⟨vs, h1, rfl, hat, -⟩ | ⟨h1, -⟩
  case inr => cases h1
  cases h1
  obtain ⟨av, cv, rfl⟩ := hat.shape
  have hcap := hat.cap
  have HAT := Lib.hid hat
  have HCAP : Hid (2 ≤ cv) := Lib.hid hcap
  rw [show [kB, kN].length = 2 from rfl] at HAT ⊢
  clear hat hcap
  go_wp2_with fail
  have hfk : firstK (ByteArray.mk #[3, 97, 0, 0, 1]).data.toList = some (kB, 4) := by kernel_rfl
  refine (keyFirstW ⟨#[3, 97, 0, 0, 1]⟩ w6 (by decide)).mono ?_
  rintro e w7 ⟨hf, hb7⟩
  have HB7 := Lib.hid (next HB6.out hb7)
  have hat := HAT.out.below hb7
  rw [hfk] at hf
  clear hb7 HB6 HAT hfk
  rcases hf with ⟨v', n', h1, rfl⟩ | ⟨h1, -⟩
  case inr => cases h1
  cases h1
  obtain ⟨b0, o0, e0, hbz, x0, x1, x2⟩ := at3 hat (k := 0) rfl
  obtain ⟨b1, o1, e1, -, y0, y1, y2⟩ := at3 hat (k := 1) rfl
  subst e0
  cases e1
  replace x0 : w7.cell? ⟨b0, o0, none⟩ = some (.int .u8 2) := x0
  replace x1 : w7.cell? ⟨b0, o0 + 1, none⟩ = some (.int .i64 0) := x1
  replace x2 : w7.cell? ⟨b0, o0 + 2, none⟩ = some (.string ⟨#[97]⟩) := x2
  replace y0 : w7.cell? ⟨b0, o0 + 3, none⟩ = some (.int .u8 0) := y0
  replace y1 : w7.cell? ⟨b0, o0 + 3 + 1, none⟩ = some (.int .i64 0) := y1
  replace y2 : w7.cell? ⟨b0, o0 + 3 + 2, none⟩ = some (.string ⟨#[]⟩) := y2
  have q0 : ∀ W, (binOp .neq 26 (.agg #[.int .u8 2, .int .i64 0, .string ⟨#[97]⟩]) (.agg #[.int .u8 2, .int .i64 0, .string ⟨#[97]⟩])).run Tryd.prog W = .ok (.bool false) W := neq_told kB kB false (by simp)
  have q1 : ∀ W, (binOp .neq 26 (.agg #[.int .u8 0, .int .i64 0, .string ⟨#[]⟩]) (.agg #[.int .u8 0, .int .i64 0, .string ⟨#[]⟩])).run Tryd.prog W = .ok (.bool false) W := neq_told kN kN false (by simp)
  clear hat
  have hcv := HCAP.out
  go_wp2_with fail
  obtain ⟨lst, hlst⟩ : ∃ lst : List ByteArray, lst = [⟨#[3, 97, 0]⟩, ⟨#[5]⟩, ⟨#[3, 0, 1, 0, 0]⟩] := ⟨_, rfl⟩
  have hcells : ∀ (k : Nat) (t : ByteArray), lst[k]? = some t → (w7.alloc (.cells #[.string ⟨#[3, 97, 0]⟩, .string ⟨#[5]⟩, .string ⟨#[3, 0, 1, 0, 0]⟩] 9)).cell? ⟨w7.heap.size, k, none⟩ = some (.string t) := fun k t hk => by
    rw [hlst] at hk
    rcases k with _ | _ | _ | k <;> simp at hk <;> subst hk <;> go_simp
  have HNONE : Hid (∀ t ∈ lst, takeK t.data.toList = none ∧ t.size ≤ 1000000) := Lib.hid (fun t ht => by
    rw [hlst] at ht
    simp only [List.mem_cons, List.not_mem_nil, or_false] at ht
    rcases ht with rfl | rfl | rfl <;> exact ⟨by kernel_rfl, by decide⟩)
  have HLEN : Hid (lst.length = 3) := Lib.hid (by rw [hlst]; rfl)
  have HB8 : Hid (Below w.heap.size w (w7.alloc (.cells #[.string ⟨#[3, 97, 0]⟩, .string ⟨#[5]⟩, .string ⟨#[3, 0, 1, 0, 0]⟩] 9))) := Lib.hid (HB7.out.alloc HB7.out.size _)
  have HLT : Hid (w7.heap.size < (w7.alloc (.cells #[.string ⟨#[3, 97, 0]⟩, .string ⟨#[5]⟩, .string ⟨#[3, 0, 1, 0, 0]⟩] 9)).heap.size) := Lib.hid (by simp)
  generalize hW8 : w7.alloc (.cells #[.string ⟨#[3, 97, 0]⟩, .string ⟨#[5]⟩, .string ⟨#[3, 0, 1, 0, 0]⟩] 9) = w8 at *
  have HCE := Lib.hid hcells
  clear hW8 hlst hcells x0 x1 x2 y0 y1 y2 q0 q1 HB7 HCAP hcv hbz
  generalize w7.heap.size = q at *
  go_loopg [105] 3 (fun gk iv wr => ∃ k : Nat, iv = .int .i64 (k : Int) ∧ gk = 3 - k ∧ k ≤ 3 ∧ Hid (Below w8.heap.size w8 wr))
  case atStart => exact ⟨0, rfl, rfl, by omega, Lib.hid (Below.refl _ _)⟩
  case round =>
    obtain ⟨k, rfl, rfl, hk3, HBEL⟩ := hrel
    by_cases hlt : k < 3
    · have ilt : (k : Int) < 3 := by omega
      obtain ⟨t, ht⟩ : ∃ t, lst[k]? = some t := ⟨lst[k]'(by have := HLEN.out; omega), by simp⟩
      have hc := (HBEL.out.cell (p := ⟨q, k, none⟩) HLT.out).trans (HCE.out k t ht)
      obtain ⟨n1, n2⟩ := HNONE.out t (List.mem_of_getElem? ht)
      have HN1 := Lib.hid n1
      have HN2 := Lib.hid n2
      have HKK : Hid (wrap64 ((k : Int) + 1) = ((k + 1 : Nat) : Int)) := Lib.hid (by unfold wrap64; omega)
      have HKL := Lib.hid hlt
      clear n1 n2 ht hlt hk3
      go_wp2_with fail
      refine (takeW t wr HN2.out).mono ?_
      rintro e w9 ⟨⟨v, hv⟩, hb9⟩
      have HB9 := Lib.hid (next HBEL.out hb9)
      rw [HN1.out] at hv
      clear hb9 hc
      rcases hv with ⟨vs, h1, -⟩ | ⟨-, rfl⟩
      case inl => cases h1
      go_wp2_with fail
      go_roundg (3 - (k + 1))
      case measure => exact Nat.sub_lt_sub_left HKL.out (Nat.lt_succ_self _)
      case rel => exact ⟨k + 1, by first | exact congrArg (Value.int .i64) HKK.out | (simp; done) | (simp; exact HKK.out), rfl, HKL.out, HB9⟩
    · have ilt : ¬ (k : Int) < 3 := by omega
      have HBW := Lib.hid (next HB8.out HBEL.out)
      clear hlt hk3 HBEL HCE HNONE
      go_wp2_with fail
      have e1 : nextK (ByteArray.mk #[97, 98]).data.toList = some [97, 99] := by kernel_rfl
      refine (nextW ⟨#[97, 98]⟩ wr (by decide)).mono ?_
      rintro e w9 ⟨hn, hb9⟩
      have HB9 := Lib.hid (next HBW.out hb9)
      rw [e1] at hn
      clear hb9 e1
      rcases hn with ⟨h1, -⟩ | ⟨n, h1, rfl⟩
      case inl => cases h1
      cases h1
      go_wp2_with fail
      have e1 : nextK (ByteArray.mk #[97, 255]).data.toList = some [98] := by kernel_rfl
      refine (nextW ⟨#[97, 255]⟩ w9 (by decide)).mono ?_
      rintro e w10 ⟨hn, hb10⟩
      have HB10 := Lib.hid (next HB9.out hb10)
      rw [e1] at hn
      clear hb10 e1
      rcases hn with ⟨h1, -⟩ | ⟨n, h1, rfl⟩
      case inl => cases h1
      cases h1
      go_wp2_with fail
      have e1 : nextK (ByteArray.mk #[255, 255]).data.toList = none := by kernel_rfl
      refine (nextW ⟨#[255, 255]⟩ w10 (by decide)).mono ?_
      rintro e w11 ⟨hn, hb11⟩
      have HB11 := Lib.hid (next HB10.out hb11)
      rw [e1] at hn
      clear hb11 e1
      rcases hn with ⟨-, rfl⟩ | ⟨n, h1, -⟩
      case inr => cases h1
      go_wp2_with fail
      have e1 : nextK (ByteArray.mk #[]).data.toList = none := by kernel_rfl
      refine (nextW ⟨#[]⟩ w11 (by decide)).mono ?_
      rintro e w12 ⟨hn, hb12⟩
      have HB12 := Lib.hid (next HB11.out hb12)
      rw [e1] at hn
      clear hb12 e1
      rcases hn with ⟨-, rfl⟩ | ⟨n, h1, -⟩
      case inr => cases h1
      go_wp2_with fail
      go_ret
      exact ⟨rfl, HB12.out⟩

theorem own : ownKnob Tryd.prog.godebug = none := by kernel_rfl
theorem laid : laidOutB Tryd.prog = true := by kernel_rfl
def laidD : List (String × DataW Unit) := [("unicode/utf8.acceptRanges", Rows.laid_unicode_utf8_acceptRanges), ("unicode/utf8.first", Rows.laid_unicode_utf8_first)]

set_option maxRecDepth 100000 in
theorem opened {H : Type} (enc : TypeId × Value → H) (W : World) (args : Array Value) (ds : List (DataW H)) (p : List MemPlace) (hsh : W.ShapedOpen Tryd.prog) :
    Lift.Owes enc Tryd.prog 3 Tryd.f3.params.toList W args ds p := by
  intro hA hval hsz _
  rw [Tryd.params3] at hA hval hsz
  obtain ⟨rfl, rfl, rfl⟩ := trodAll_none hA
  exact walk  W (maxAt hsh) 

set_option maxRecDepth 100000 in
theorem lifted (os : Os) (started : os.Started) (H : Type) (enc : TypeId × Value → H) :
    ReturnsInHanded {} Tryd.checked os 3 .any (fun w args => (Rows.keyKnownSpec.pre enc Tryd.prog Tryd.f3 [] false w args ∧ laidMetH Tryd.prog laidD w) ∧ sizedMet enc Tryd.prog Tryd.f3 (OpenSpec.ofChange Rows.keyKnownSpec) false w args)
      (Rows.keyKnownSpec.post enc Tryd.prog Tryd.f3 false true false false) := by
  refine Lift.liftedD (C := Tryd.checked) (X := fun w _ => laidMetH Tryd.prog laidD w) (fun _ _ _ hh h => h.of_heap hh) own started (by kernel_rfl) Tryd.func3
    (ChangeSpec.witness_shaped (enc := enc) (C := Tryd.checked) (os := os) (X := fun w _ => laidMetH Tryd.prog laidD w) false (World.laidAll Tryd.prog os laidD) #[] 8 (World.laidAll_os _ _ _)
      (World.shaped_of_ZipB (by kernel_rfl) (by kernel_rfl)) (by kernel_rfl) (by kernel_rfl) (by kernel_rfl)
      (by rw [MakeChecks.laidMetH_plain _ _ _ (by kernel_rfl)]; exact laidMet_laidAll _ (by kernel_rfl) (by kernel_rfl)))
    laid (by rw [Tryd.params3]; intro t ht; simp at ht; skip) rfl 4 rfl Tryd.underlying4
    (fun ds hds => by match ds, hds with | [], _ => rfl) (fun W args ds p hsh hL => opened enc W args ds p hsh)

theorem row_said : Rows.KeyKnownSaid :=
  OpenClaim.holds_of_wide 3 Tryd.f3 rfl rfl rfl rfl rfl rfl rfl ⟨rfl, rfl, rfl, rfl, rfl⟩ rfl rfl rfl rfl rfl (by kernel_rfl) Tryd.func3 (by kernel_rfl)
    (of_decide_eq_true (by kernel_rfl)) (by unfold Func.isWrapper; first | (rw [if_pos (by decide +kernel)]; kernel_rfl) | (rw [if_neg (by decide +kernel)]; exact ⟨rfl, rfl⟩))
    (fun os started H enc _ => lifted os started H enc)

theorem said : Rows.KeyKnownCardSaid :=
  Claim7.holds_tied_plain_at .later [] [.data, .pinned] true (true, "8f4162f3906d0e67fc9971c049c0f3ef0f8604932e175dfc05a3bc2ba29fe5b6") false
    row_said (fun _ h => by cases h) (by kernel_rfl) (fun _ h => by cases h) keyKnown_row_tie rfl ⟨rfl, rfl⟩ (by kernel_rfl) rfl
    (fun f fn hf hfn => by
      obtain rfl : f = 3 := Option.some.inj ((show Tryd.prog.funcNamed "counterfoil/counterfoillaw08.KeyKnown" = some 3 by kernel_rfl).symm.trans hf) |>.symm
      obtain rfl : fn = Tryd.f3 := (Option.some.inj (Tryd.func3.symm.trans hfn)).symm
      exact ⟨by kernel_rfl, fun j t ht => by
        rw [Tryd.params3] at ht
        simp at ht⟩)
    (by kernel_rfl)
#print axioms said
end Go.Proofs.YtcimipebpfajgaaDoor.KeyKnown
