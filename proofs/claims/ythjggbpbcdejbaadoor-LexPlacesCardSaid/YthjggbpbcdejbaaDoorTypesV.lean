/-
  A value's type in this program.
-/
import Derived.Test.YthjggbpbcdejbaaDoorOpen
import Derived.Test.YthjggbpbcdejbaaDoorProg
namespace Go.Proofs.YthjggbpbcdejbaaDoor.Dt
theorem vT : VType Tryd.prog 38 :=
  ⟨by kernel_rfl, by kernel_rfl, ⟨5, by kernel_rfl, by kernel_rfl, by kernel_rfl⟩, ⟨2, by kernel_rfl, by kernel_rfl, by kernel_rfl⟩, ⟨9, by kernel_rfl, by kernel_rfl, by kernel_rfl⟩⟩
end Go.Proofs.YthjggbpbcdejbaaDoor.Dt
