/-
  A value's type in this program.
-/
import Derived.Test.YthoboogdjfpkaaaDoorOpen
import Derived.Test.YthoboogdjfpkaaaDoorProg
namespace Go.Proofs.YthoboogdjfpkaaaDoor.Dt
theorem vT : VType Tryd.prog 26 :=
  ⟨by kernel_rfl, by kernel_rfl, ⟨5, by kernel_rfl, by kernel_rfl, by kernel_rfl⟩, ⟨2, by kernel_rfl, by kernel_rfl, by kernel_rfl⟩, ⟨9, by kernel_rfl, by kernel_rfl, by kernel_rfl⟩⟩
end Go.Proofs.YthoboogdjfpkaaaDoor.Dt
