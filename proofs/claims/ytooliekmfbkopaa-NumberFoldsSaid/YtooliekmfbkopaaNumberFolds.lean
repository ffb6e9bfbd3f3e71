/- NumberFolds: any whole number, folded and back; how many bits it has when folded. No conditions. -/
import Derived.Test.YtooliekmfbkopaaLift
import Derived.Test.YtooliekmfbkopaaNumLaw
import Derived.Test.YtooliekmfbkopaaNumFold
namespace Go.Proofs.Ytooliekmfbkopaa.NumberFolds
open Go.ChangeShapes Go.WideShapes Go.ChangeAt Go.RowKit Go.Proofs.Ytooliekmfbkopaa.By
open Go.Proofs.Ytooliekmfbkopaa.Num
theorem pow_bound (j : Nat) (h : j < 63) : (1 : Int) ≤ 2 ^ j ∧ (2 : Int) ^ j ≤ 4611686018427387904 := by
  have h1 : 2 ^ j ≤ 2 ^ 62 := Nat.pow_le_pow_right (by omega) (by omega)
  have h2 : 0 < 2 ^ j := Nat.pow_pos (by omega)
  have e : ((2 ^ j : Nat) : Int) = (2 : Int) ^ j := by simp
  omega
theorem wrap_pow (j : Nat) (h : j < 63) : wrap64 (2 ^ j) = 2 ^ j ∧ wrap64 (-wrap64 (2 ^ j)) = -2 ^ j := by
  have := pow_bound j h
  have e : wrap64 (2 ^ j) = 2 ^ j := by unfold wrap64; omega
  refine ⟨e, ?_⟩
  rw [e]; unfold wrap64; omega
theorem fold_shift (i : Int) (j : Nat) : ((foldN i : Int) / 2 ^ (1 + j) == 0) = decide (-2 ^ j ≤ i ∧ i < 2 ^ j) := by
  have e : ((2 ^ j : Nat) : Int) = (2 : Int) ^ j := by simp
  have e2 : (2 : Int) ^ (1 + j) = ((2 * 2 ^ j : Nat) : Int) := by rw [Int.pow_add]; simp
  have hp : 0 < 2 ^ j := Nat.pow_pos (by omega)
  rw [e2, ← e, Bool.eq_iff_iff]
  simp only [beq_iff_eq, decide_eq_true_eq]
  rw [← Int.natCast_ediv]
  generalize 2 ^ j = h at *
  have hd : foldN i / (2 * h) = 0 ↔ foldN i < 2 * h := Nat.div_eq_zero_iff_lt (by omega)
  rw [Int.natCast_eq_zero, hd]
  unfold foldN
  split <;> omega
theorem fin_a (i : Int) (j : Nat) (h : j < 63) (ht : wrap64 (-wrap64 (2 ^ j)) ≤ i) : (((foldN i : Int) / 2 ^ (1 + j) == 0) == decide (i < wrap64 (2 ^ j))) = true := by
  rw [(wrap_pow j h).2] at ht
  rw [fold_shift, (wrap_pow j h).1]
  simp [ht]
theorem fin_b (i : Int) (j : Nat) (h : j < 63) (ht : i < wrap64 (-wrap64 (2 ^ j))) : (!(foldN i : Int) / 2 ^ (1 + j) == 0) = true := by
  rw [(wrap_pow j h).2] at ht
  rw [fold_shift]
  simp; omega
set_option maxRecDepth 100000 in
theorem walk (i : Int) (n k : Nat) (w : World) (hi : -9223372036854775808 ≤ i ∧ i ≤ 9223372036854775807) (hn : n < 18446744073709551616) (hk : k < 256) :
    Calls Try.prog 17 #[.int .i64 i, .int .u64 (n : Int), .int .u8 (k : Int)] w fun e w' => e = .returned (.bool true) ∧ Below w.heap.size w w' := by
  have HI := Lib.hid hi; clear hi
  have HN := Lib.hid hn; clear hn
  have hf64 := Lib.hid (foldN_lt i HI.out.1 HI.out.2)
  have huf := Lib.hid (unfoldN_bounds n HN.out)
  go_enter Try.func17, Try.ntmps17
  go_wp2_with fail
  refine (works _).mono ?_
  rintro e w1 ⟨rfl, hb1⟩
  go_wp2_with fail
  refine (fold i _ HI.out.1 HI.out.2).mono ?_
  rintro e w2 ⟨rfl, rfl⟩
  go_wp2_with fail
  refine (refFold i _ HI.out.1 HI.out.2).mono ?_
  rintro e w2 ⟨rfl, rfl⟩
  go_wp2_with fail
  refine (fold i _ HI.out.1 HI.out.2).mono ?_
  rintro e w2 ⟨rfl, rfl⟩
  go_wp2_with fail
  refine (Num.unfold _ _ hf64.out).mono ?_
  rintro e w2 ⟨rfl, rfl⟩
  rw [unfold_fold]
  go_wp2_with fail
  refine (Num.unfold n _ HN.out).mono ?_
  rintro e w2 ⟨rfl, rfl⟩
  go_wp2_with fail
  refine (fold _ _ huf.out.1 huf.out.2).mono ?_
  rintro e w2 ⟨rfl, rfl⟩
  rw [fold_unfold]
  go_wp2_with fail
  refine (fold i _ HI.out.1 HI.out.2).mono ?_
  rintro e w2 ⟨rfl, rfl⟩
  go_wp2_with fail
  all_goals
    go_ret
    first
      | (have ht : wrap64 (-wrap64 (2 ^ (k % 63))) ≤ i := by assumption
         exact ⟨congrArg (fun x => Ending.returned (.bool x)) (fin_a i (k % 63) (by omega) ht), hb1⟩)
      | (have ht : i < wrap64 (-wrap64 (2 ^ (k % 63))) := by assumption
         exact ⟨congrArg (fun x => Ending.returned (.bool x)) (fin_b i (k % 63) (by omega) ht), hb1⟩)

theorem own : ownKnob Try.prog.godebug = none := by kernel_rfl
theorem laid : laidOutB Try.prog = true := by kernel_rfl

theorem opened {H : Type} (enc : TypeId × Value → H) (W : World) (args : Array Value) (ds : List (DataW H)) (p : List MemPlace) :
    Lift.Owes enc Try.prog 17 Try.f17.params.toList W args ds p := by
  intro hA hval hsz _
  rw [Try.params17] at hA hval hsz
  obtain ⟨v0, vs0, d0, ds0, p0, q0, hargs, rfl, rfl, h0, r0⟩ := trodAll_cons hA
  obtain ⟨v1, vs1, d1, ds1, p1, q1, rfl, rfl, rfl, h1, r1⟩ := trodAll_cons r0
  obtain ⟨v2, vs2, d2, ds2, p2, q2, rfl, rfl, rfl, h2, r2⟩ := trodAll_cons r1
  obtain ⟨rfl, rfl, rfl⟩ := trodAll_nil r2
  obtain rfl : args = #[v0, v1, v2] := by cases args; simp_all
  obtain ⟨base0, hv0⟩ := hval 0 _ v0 rfl rfl
  obtain ⟨a0, rfl, rfl, rfl, wa0⟩ := open_int Try.underlying2 hv0 h0
  obtain ⟨l0, u0⟩ := bounds_i64 wa0
  obtain ⟨base1, hv1⟩ := hval 1 _ v1 rfl rfl
  obtain ⟨a1, rfl, rfl, rfl, wa1⟩ := open_int Try.underlying22 hv1 h1
  obtain ⟨l1, u1⟩ := bounds_u64 wa1
  obtain ⟨n1, rfl⟩ := Int.eq_ofNat_of_zero_le l1
  obtain ⟨base2, hv2⟩ := hval 2 _ v2 rfl rfl
  obtain ⟨a2, rfl, rfl, rfl, wa2⟩ := open_int Try.underlying5 hv2 h2
  obtain ⟨l2, u2⟩ := bounds_u8 wa2
  obtain ⟨n2, rfl⟩ := Int.eq_ofNat_of_zero_le l2
  exact walk a0 n1 n2 W (by omega) (by omega) (by omega)

set_option maxRecDepth 100000 in
theorem lifted (os : Os) (started : os.Started) (H : Type) (enc : TypeId × Value → H) :
    ReturnsInHanded {} Try.checked os 17 .any (Rows.numberFoldsSpec.pre6 enc Try.prog Try.f17 Rows.numberFoldsRow.domain false)
      (Rows.numberFoldsSpec.post enc Try.prog Try.f17 false true false false) := by
  refine Lift.lifted (C := Try.checked) own started (by kernel_rfl) Try.func17
    (ChangeSpec.witness6 (enc := enc) (C := Try.checked) false ⟨#[], #[.int .i64 0, .int .u64 0, .int .u8 0], []⟩ 8 (by kernel_rfl) (by kernel_rfl) (by kernel_rfl) (by kernel_rfl))
    laid (by rw [Try.params17]; intro t ht; simp at ht; rcases ht with rfl | rfl | rfl <;> exact ⟨by kernel_rfl, of_decide_eq_true (by kernel_rfl)⟩) rfl 4 rfl Try.underlying4
    (fun ds hds => by match ds, hds with | [_, _, _], _ => rfl) (opened enc)

theorem said : Rows.NumberFoldsSaid :=
  OpenClaim.holds_of_wide 17 Try.f17 rfl rfl rfl rfl rfl rfl rfl ⟨rfl, rfl, rfl, rfl, rfl⟩ rfl rfl rfl rfl rfl (by kernel_rfl) Try.func17 (by kernel_rfl)
    (of_decide_eq_true (by kernel_rfl)) (by unfold Func.isWrapper; first | (rw [if_pos (by decide +kernel)]; kernel_rfl) | (rw [if_neg (by decide +kernel)]; exact ⟨rfl, rfl⟩))
    (fun os started H enc _ => lifted os started H enc)
#print axioms said
end Go.Proofs.Ytooliekmfbkopaa.NumberFolds
