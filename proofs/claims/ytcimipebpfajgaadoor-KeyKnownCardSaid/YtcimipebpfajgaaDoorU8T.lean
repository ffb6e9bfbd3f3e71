/-
  A byte's types.
-/
import Derived.Test.YtcimipebpfajgaaDoorProg
import Derived.ProofKit
namespace Go.Proofs.YtcimipebpfajgaaDoor.Num

theorem cv_u8 : Tryd.prog.underlying 37 = some (.slice 5) := by kernel_rfl
theorem ty_u8 : Tryd.prog.underlying 5 = some (.int .u8) := by kernel_rfl
theorem ty_str : Tryd.prog.underlying 9 = some .string := by kernel_rfl
end Go.Proofs.YtcimipebpfajgaaDoor.Num
