/-
  A value's type in this program.
-/
import Derived.Test.YtcimipebpfajgaaDoorOpen
import Derived.Test.YtcimipebpfajgaaDoorProg
namespace Go.Proofs.YtcimipebpfajgaaDoor.Dt
theorem vT : VType Tryd.prog 26 :=
  ⟨by kernel_rfl, by kernel_rfl, ⟨5, by kernel_rfl, by kernel_rfl, by kernel_rfl⟩, ⟨2, by kernel_rfl, by kernel_rfl, by kernel_rfl⟩, ⟨9, by kernel_rfl, by kernel_rfl, by kernel_rfl⟩⟩
end Go.Proofs.YtcimipebpfajgaaDoor.Dt
