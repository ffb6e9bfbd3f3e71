/- NumberSizes: of two numbers the greater one's short form has no fewer bytes; the sizes are 1 to 9. No conditions. -/
import Derived.Test.YtooliekmfbkopaaLift
import Derived.Test.YtooliekmfbkopaaNumLaw
import Derived.Test.YtooliekmfbkopaaNumSpec4
import Derived.Test.YtooliekmfbkopaaQuiet
namespace Go.Proofs.Ytooliekmfbkopaa.NumberSizes
open Go.ChangeShapes Go.WideShapes Go.ChangeAt Go.RowKit Go.Proofs.Ytooliekmfbkopaa.By
open Go.Proofs.Ytooliekmfbkopaa.Num
theorem cmp_7 (a k : Nat) (h1 : 1 ≤ k) (h : k ≤ 8) (ha : a < 18446744073709551616) : decide ((a : Int) < IntKind.u64.wrap (2 ^ (7 * k))) = decide ((putL a).length ≤ k) := by
  have e : ∀ j : Fin 9, IntKind.u64.wrap (2 ^ (7 * j.val)) = ((128 ^ j.val : Nat) : Int) := by decide
  have e1 := e ⟨k, by omega⟩
  simp only at e1
  rw [e1]
  congr 1
  rw [eq_iff_iff, size_iff a k ha h1 h]
  omega
set_option maxRecDepth 100000 in
theorem walk (a b : Nat) (w : World) (ha : a < 18446744073709551616) (hb : b < 18446744073709551616) :
    Calls Try.prog 16 #[.int .u64 (a : Int), .int .u64 (b : Int)] w fun e w' => e = .returned (.bool true) ∧ Below w.heap.size w w' := by
  have HA := Lib.hid ha; clear ha
  have HB := Lib.hid hb; clear hb
  go_enter Try.func16, Try.ntmps16
  go_wp2_with fail
  refine (works _).mono ?_
  rintro e w1 ⟨rfl, hb1⟩
  go_wp2_with fail
  go_loopw [5] (fun iv wr => ∃ k : Nat, iv = .int .i64 (k : Int) ∧ 1 ≤ k ∧ k ≤ 9 ∧ Below w.heap.size w wr) (fun iv _ => (9 - intOf iv).toNat)
  case atStart => exact ⟨1, rfl, by omega, by omega, hb1⟩
  case round =>
    obtain ⟨k, rfl, hk1, hk9, hbel⟩ := hrel
    by_cases hk : k ≤ 8
    · have hsh := cmp_7 a k hk1 hk HA.out
      have hw : IntKind.i64.wrap (7 * (k : Int)) = 7 * (k : Int) := by rw [IntKind.wrap_i64]; omega
      go_wp2_with fail
      go_quiet ((go_at_call 22; exact quiet_eq (size a _ HA.out)))
      go_wp2_with fail
      go_roundw
      case rel => exact ⟨k + 1, by go_num, by omega, by omega, below_drewN hbel _⟩
      case measure => simp [intOf]; omega
    · have h9 := (putL_len a HA.out).2
      have hm1 := size_mono a b HA.out HB.out
      have hm2 := size_mono b a HB.out HA.out
      by_cases hab : a ≤ b
      · have hl := hm1 hab
        clear hm1 hm2
        go_wp2_with fail
        refine (size a _ HA.out).mono ?_
        rintro e w2 ⟨rfl, rfl⟩
        go_wp2_with fail
        refine (size a _ HA.out).mono ?_
        rintro e w2 ⟨rfl, rfl⟩
        go_wp2_with fail
        refine (size b _ HB.out).mono ?_
        rintro e w2 ⟨rfl, rfl⟩
        go_wp2_with fail
        go_ret
        exact ⟨rfl, hbel⟩
      · have hl := hm2 (by omega)
        have hba : b < a := by omega
        have hfin : (decide ((putL a).length ≤ (putL b).length) == (decide (a ≤ b) || ((putL a).length : Int) == ((putL b).length : Int))) = true := by
          rw [beq_iff_eq, Bool.eq_iff_iff]
          simp only [Bool.or_eq_true, decide_eq_true_eq, beq_iff_eq]
          omega
        have HF := Lib.hid hfin
        clear hm1 hm2 hfin hab hl
        go_wp2_with fail
        refine (size a _ HA.out).mono ?_
        rintro e w2 ⟨rfl, rfl⟩
        go_wp2_with fail
        refine (size a _ HA.out).mono ?_
        rintro e w2 ⟨rfl, rfl⟩
        go_wp2_with fail
        refine (size b _ HB.out).mono ?_
        rintro e w2 ⟨rfl, rfl⟩
        go_wp2_with fail
        refine (size a _ HA.out).mono ?_
        rintro e w2 ⟨rfl, rfl⟩
        go_wp2_with fail
        refine (size b _ HB.out).mono ?_
        rintro e w2 ⟨rfl, rfl⟩
        go_wp2_with fail
        go_ret
        exact ⟨congrArg (fun x => Ending.returned (.bool x)) HF.out, hbel⟩

theorem own : ownKnob Try.prog.godebug = none := by kernel_rfl
theorem laid : laidOutB Try.prog = true := by kernel_rfl

theorem opened {H : Type} (enc : TypeId × Value → H) (W : World) (args : Array Value) (ds : List (DataW H)) (p : List MemPlace) :
    Lift.Owes enc Try.prog 16 Try.f16.params.toList W args ds p := by
  intro hA hval hsz _
  rw [Try.params16] at hA hval hsz
  obtain ⟨v0, vs0, d0, ds0, p0, q0, hargs, rfl, rfl, h0, r0⟩ := trodAll_cons hA
  obtain ⟨v1, vs1, d1, ds1, p1, q1, rfl, rfl, rfl, h1, r1⟩ := trodAll_cons r0
  obtain ⟨rfl, rfl, rfl⟩ := trodAll_nil r1
  obtain rfl : args = #[v0, v1] := by cases args; simp_all
  obtain ⟨base0, hv0⟩ := hval 0 _ v0 rfl rfl
  obtain ⟨a0, rfl, rfl, rfl, wa0⟩ := open_int Try.underlying22 hv0 h0
  obtain ⟨l0, u0⟩ := bounds_u64 wa0
  obtain ⟨n0, rfl⟩ := Int.eq_ofNat_of_zero_le l0
  obtain ⟨base1, hv1⟩ := hval 1 _ v1 rfl rfl
  obtain ⟨a1, rfl, rfl, rfl, wa1⟩ := open_int Try.underlying22 hv1 h1
  obtain ⟨l1, u1⟩ := bounds_u64 wa1
  obtain ⟨n1, rfl⟩ := Int.eq_ofNat_of_zero_le l1
  exact walk n0 n1 W (by omega) (by omega)

set_option maxRecDepth 100000 in
theorem lifted (os : Os) (started : os.Started) (H : Type) (enc : TypeId × Value → H) :
    ReturnsInHanded {} Try.checked os 16 .any (Rows.numberSizesSpec.pre6 enc Try.prog Try.f16 Rows.numberSizesRow.domain false)
      (Rows.numberSizesSpec.post enc Try.prog Try.f16 false true false false) := by
  refine Lift.lifted (C := Try.checked) own started (by kernel_rfl) Try.func16
    (ChangeSpec.witness6 (enc := enc) (C := Try.checked) false ⟨#[], #[.int .u64 0, .int .u64 0], []⟩ 8 (by kernel_rfl) (by kernel_rfl) (by kernel_rfl) (by kernel_rfl))
    laid (by rw [Try.params16]; intro t ht; simp at ht; rcases ht with rfl | rfl <;> exact ⟨by kernel_rfl, of_decide_eq_true (by kernel_rfl)⟩) rfl 4 rfl Try.underlying4
    (fun ds hds => by match ds, hds with | [_, _], _ => rfl) (opened enc)

theorem said : Rows.NumberSizesSaid :=
  OpenClaim.holds_of_wide 16 Try.f16 rfl rfl rfl rfl rfl rfl rfl ⟨rfl, rfl, rfl, rfl, rfl⟩ rfl rfl rfl rfl rfl (by kernel_rfl) Try.func16 (by kernel_rfl)
    (of_decide_eq_true (by kernel_rfl)) (by unfold Func.isWrapper; first | (rw [if_pos (by decide +kernel)]; kernel_rfl) | (rw [if_neg (by decide +kernel)]; exact ⟨rfl, rfl⟩))
    (fun os started H enc _ => lifted os started H enc)
#print axioms said
end Go.Proofs.Ytooliekmfbkopaa.NumberSizes
