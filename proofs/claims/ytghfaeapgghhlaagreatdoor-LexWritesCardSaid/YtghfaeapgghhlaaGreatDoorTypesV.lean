/-
  A value's type in this program.
-/
import Derived.Test.YtghfaeapgghhlaaGreatDoorOpen
import Derived.Test.YtghfaeapgghhlaaGreatDoorProg
namespace Go.Proofs.YtghfaeapgghhlaaGreatDoor.Dt
theorem vT : VType Tryz.prog 64 :=
  ⟨by kernel_rfl, by kernel_rfl, ⟨5, by kernel_rfl, by kernel_rfl, by kernel_rfl⟩, ⟨2, by kernel_rfl, by kernel_rfl, by kernel_rfl⟩, ⟨9, by kernel_rfl, by kernel_rfl, by kernel_rfl⟩⟩
end Go.Proofs.YtghfaeapgghhlaaGreatDoor.Dt
