/-
  A value's type in this program.
-/
import Derived.Test.YthiajonjleambaaDoorOpen
import Derived.Test.YthiajonjleambaaDoorProg
namespace Go.Proofs.YthiajonjleambaaDoor.Dt
theorem vT : VType Tryd.prog 23 :=
  ⟨by kernel_rfl, by kernel_rfl, ⟨5, by kernel_rfl, by kernel_rfl, by kernel_rfl⟩, ⟨2, by kernel_rfl, by kernel_rfl, by kernel_rfl⟩, ⟨9, by kernel_rfl, by kernel_rfl, by kernel_rfl⟩⟩
end Go.Proofs.YthiajonjleambaaDoor.Dt
