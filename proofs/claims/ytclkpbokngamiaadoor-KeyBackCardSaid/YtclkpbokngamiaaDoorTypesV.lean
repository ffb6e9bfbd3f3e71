/-
  A value's type in this program.
-/
import Derived.Test.YtclkpbokngamiaaDoorOpen
import Derived.Test.YtclkpbokngamiaaDoorProg
namespace Go.Proofs.YtclkpbokngamiaaDoor.Dt
theorem vT : VType Tryd.prog 39 :=
  ⟨by kernel_rfl, by kernel_rfl, ⟨5, by kernel_rfl, by kernel_rfl, by kernel_rfl⟩, ⟨2, by kernel_rfl, by kernel_rfl, by kernel_rfl⟩, ⟨9, by kernel_rfl, by kernel_rfl, by kernel_rfl⟩⟩
end Go.Proofs.YtclkpbokngamiaaDoor.Dt
