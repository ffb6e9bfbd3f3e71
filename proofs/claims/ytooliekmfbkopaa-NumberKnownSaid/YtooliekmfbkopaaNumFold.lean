/-
  The walks of Fold, Unfold and the reference's Fold.
-/
import Derived.Test.YtooliekmfbkopaaNum
import Derived.Test.YtooliekmfbkopaaNumSpec3
namespace Go.Proofs.Ytooliekmfbkopaa.Num
open Go.RowKit Go.Proofs.Ytooliekmfbkopaa.By

theorem fold (i : Int) (w : World) (h0 : -9223372036854775808 ≤ i) (h1 : i ≤ 9223372036854775807) :
    Calls Try.prog 38 #[.int .i64 i] w fun e w' => e = .returned (.int .u64 (foldN i)) ∧ w = w' := by
  have hf := Lib.hid (fold_bits i h0 h1)
  clear h0 h1
  go_enter Try.func38, Try.ntmps38
  go_wp2_with fail
  go_ret
  exact ⟨congrArg (fun x => Ending.returned (.int .u64 x)) hf.out, rfl⟩

theorem unfold (n : Nat) (w : World) (h : n < 18446744073709551616) :
    Calls Try.prog 40 #[.int .u64 (n : Int)] w fun e w' => e = .returned (.int .i64 (unfoldN n)) ∧ w = w' := by
  have hf := Lib.hid (unfold_bits n h)
  clear h
  go_enter Try.func40, Try.ntmps40
  go_wp2_with fail
  go_ret
  exact ⟨congrArg (fun x => Ending.returned (.int .i64 x)) hf.out, rfl⟩

theorem refFold (i : Int) (w : World) (h0 : -9223372036854775808 ≤ i) (h1 : i ≤ 9223372036854775807) :
    Calls Try.prog 39 #[.int .i64 i] w fun e w' => e = .returned (.int .u64 (foldN i)) ∧ w = w' := by
  by_cases h : 0 ≤ i
  · have hf := Lib.hid (ref_pos i h h1)
    clear h0 h1
    go_enter Try.func39, Try.ntmps39
    go_wp2_with fail
    go_ret
    exact ⟨congrArg (fun x => Ending.returned (.int .u64 x)) hf.out, rfl⟩
  · have hf := Lib.hid (ref_neg i (by omega) h0)
    clear h0 h1
    go_enter Try.func39, Try.ntmps39
    go_wp2_with fail
    go_ret
    exact ⟨congrArg (fun x => Ending.returned (.int .u64 x)) hf.out, rfl⟩
end Go.Proofs.Ytooliekmfbkopaa.Num
