/-
  A value's type in this program.
-/
import Derived.Test.YtghfaeapgghhlaaDoorOpen
import Derived.Test.YtghfaeapgghhlaaDoorProg
namespace Go.Proofs.YtghfaeapgghhlaaDoor.Dt
theorem vT : VType Tryd.prog 27 :=
  ⟨by kernel_rfl, by kernel_rfl, ⟨5, by kernel_rfl, by kernel_rfl, by kernel_rfl⟩, ⟨2, by kernel_rfl, by kernel_rfl, by kernel_rfl⟩, ⟨9, by kernel_rfl, by kernel_rfl, by kernel_rfl⟩⟩
end Go.Proofs.YtghfaeapgghhlaaDoor.Dt
