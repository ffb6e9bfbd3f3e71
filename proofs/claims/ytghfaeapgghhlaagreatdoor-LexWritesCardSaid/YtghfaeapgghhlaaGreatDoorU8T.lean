/-
  A byte's types.
-/
import Derived.Test.YtghfaeapgghhlaaGreatDoorProg
import Derived.ProofKit
namespace Go.Proofs.YtghfaeapgghhlaaGreatDoor.Num

theorem cv_u8 : Tryz.prog.underlying 48 = some (.slice 5) := by kernel_rfl
theorem ty_u8 : Tryz.prog.underlying 5 = some (.int .u8) := by kernel_rfl
theorem ty_str : Tryz.prog.underlying 9 = some .string := by kernel_rfl
end Go.Proofs.YtghfaeapgghhlaaGreatDoor.Num
