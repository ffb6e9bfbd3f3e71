/- NumberRising: numbers of as many bytes stand in the order of their bytes. No conditions. -/
import Derived.Test.YtooliekmfbkopaaLift
import Derived.Test.YtooliekmfbkopaaNumLaw
import Derived.Test.YtooliekmfbkopaaNumSpec4
namespace Go.Proofs.Ytooliekmfbkopaa.NumberRising
open Go.ChangeShapes Go.WideShapes Go.ChangeAt Go.RowKit Go.Proofs.Ytooliekmfbkopaa.By
open Go.Proofs.Ytooliekmfbkopaa.Num
theorem less4 (a b : Nat) (ha : a < 4294967296) (hb : b < 4294967296) : Op.bytesLess (be4 a) (be4 b) = decide (a < b) := by
  rw [← be_four, ← be_four]; exact be_less 4 a b (by omega) (by omega)
theorem less8 (a b : Nat) (ha : a < 18446744073709551616) (hb : b < 18446744073709551616) : Op.bytesLess (be8 a) (be8 b) = decide (a < b) := by
  rw [← be_eight, ← be_eight]; exact be_less 8 a b (by omega) (by omega)
set_option maxRecDepth 100000 in
theorem walk (a b : Nat) (w : World) (ha : a < 18446744073709551616) (hb : b < 18446744073709551616) :
    Calls Try.prog 15 #[.int .u64 (a : Int), .int .u64 (b : Int)] w fun e w' => e = .returned (.bool true) ∧ Below w.heap.size w w' := by
  have HA := Lib.hid ha; clear ha
  have HB := Lib.hid hb; clear hb
  go_enter Try.func15, Try.ntmps15
  go_wp2_with fail
  refine (works _).mono ?_
  rintro e w1 ⟨rfl, hb1⟩
  go_wp2_with fail
  refine (eight _ _ (by omega) (by have := HA.out; omega)).mono ?_
  rintro e w2 ⟨rfl, hb2⟩
  go_wp2_with fail
  refine (eight _ _ (by omega) (by have := HB.out; omega)).mono ?_
  rintro e w3 ⟨rfl, hb3⟩
  simp only [Int.toNat_natCast]
  have h8 := less8 a b HA.out HB.out
  go_wp2_with fail
  refine (four _ _ (by omega)).mono ?_
  rintro e w4 ⟨rfl, hb4⟩
  go_wp2_with fail
  refine (four _ _ (by omega)).mono ?_
  rintro e w5 ⟨rfl, hb5⟩
  have h4 : Op.bytesLess (be4 ((a : Int) % 4294967296).toNat) (be4 ((b : Int) % 4294967296).toNat) = decide ((a : Int) % 4294967296 < (b : Int) % 4294967296) := by
    rw [less4 _ _ (by omega) (by omega)]
    congr 1
    rw [eq_iff_iff]
    omega
  have H4 := Lib.hid h4; clear h4
  go_wp2_with fail
  go_ret
  refine ⟨congrArg (fun x => Ending.returned (.bool x)) (show (Op.bytesLess (be4 ((a : Int) % 4294967296).toNat) (be4 ((b : Int) % 4294967296).toNat) == decide ((a : Int) % 4294967296 < (b : Int) % 4294967296)) = true by rw [H4.out]; simp), ?_⟩
  exact (((hb1.trans (hb2.mono hb1.size)).trans (hb3.mono (Nat.le_trans hb1.size hb2.size))).trans (hb4.mono (Nat.le_trans (Nat.le_trans hb1.size hb2.size) hb3.size))).trans (hb5.mono (Nat.le_trans (Nat.le_trans (Nat.le_trans hb1.size hb2.size) hb3.size) hb4.size))

theorem own : ownKnob Try.prog.godebug = none := by kernel_rfl
theorem laid : laidOutB Try.prog = true := by kernel_rfl

theorem opened {H : Type} (enc : TypeId × Value → H) (W : World) (args : Array Value) (ds : List (DataW H)) (p : List MemPlace) :
    Lift.Owes enc Try.prog 15 Try.f15.params.toList W args ds p := by
  intro hA hval hsz _
  rw [Try.params15] at hA hval hsz
  obtain ⟨v0, vs0, d0, ds0, p0, q0, hargs, rfl, rfl, h0, r0⟩ := trodAll_cons hA
  obtain ⟨v1, vs1, d1, ds1, p1, q1, rfl, rfl, rfl, h1, r1⟩ := trodAll_cons r0
  obtain ⟨rfl, rfl, rfl⟩ := trodAll_nil r1
  obtain rfl : args = #[v0, v1] := by cases args; simp_all
  obtain ⟨base0, hv0⟩ := hval 0 _ v0 rfl rfl
  obtain ⟨a0, rfl, rfl, rfl, wa0⟩ := open_int Try.underlying22 hv0 h0
  obtain ⟨l0, u0⟩ := bounds_u64 wa0
  obtain ⟨n0, rfl⟩ := Int.eq_ofNat_of_zero_le l0
  obtain ⟨base1, hv1⟩ := hval 1 _ v1 rfl rfl
  obtain ⟨a1, rfl, rfl, rfl, wa1⟩ := open_int Try.underlying22 hv1 h1
  obtain ⟨l1, u1⟩ := bounds_u64 wa1
  obtain ⟨n1, rfl⟩ := Int.eq_ofNat_of_zero_le l1
  exact walk n0 n1 W (by omega) (by omega)

set_option maxRecDepth 100000 in
theorem lifted (os : Os) (started : os.Started) (H : Type) (enc : TypeId × Value → H) :
    ReturnsInHanded {} Try.checked os 15 .any (Rows.numberRisingSpec.pre6 enc Try.prog Try.f15 Rows.numberRisingRow.domain false)
      (Rows.numberRisingSpec.post enc Try.prog Try.f15 false true false false) := by
  refine Lift.lifted (C := Try.checked) own started (by kernel_rfl) Try.func15
    (ChangeSpec.witness6 (enc := enc) (C := Try.checked) false ⟨#[], #[.int .u64 0, .int .u64 0], []⟩ 8 (by kernel_rfl) (by kernel_rfl) (by kernel_rfl) (by kernel_rfl))
    laid (by rw [Try.params15]; intro t ht; simp at ht; rcases ht with rfl | rfl <;> exact ⟨by kernel_rfl, of_decide_eq_true (by kernel_rfl)⟩) rfl 4 rfl Try.underlying4
    (fun ds hds => by match ds, hds with | [_, _], _ => rfl) (opened enc)

theorem said : Rows.NumberRisingSaid :=
  OpenClaim.holds_of_wide 15 Try.f15 rfl rfl rfl rfl rfl rfl rfl ⟨rfl, rfl, rfl, rfl, rfl⟩ rfl rfl rfl rfl rfl (by kernel_rfl) Try.func15 (by kernel_rfl)
    (of_decide_eq_true (by kernel_rfl)) (by unfold Func.isWrapper; first | (rw [if_pos (by decide +kernel)]; kernel_rfl) | (rw [if_neg (by decide +kernel)]; exact ⟨rfl, rfl⟩))
    (fun os started H enc _ => lifted os started H enc)
#print axioms said
end Go.Proofs.Ytooliekmfbkopaa.NumberRising
