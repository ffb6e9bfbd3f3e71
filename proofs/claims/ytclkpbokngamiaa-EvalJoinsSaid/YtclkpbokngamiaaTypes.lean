/-
  The struct types of this program.
-/
import Derived.Test.YtclkpbokngamiaaOpen
import Derived.Test.YtclkpbokngamiaaProg
namespace Go.Proofs.Ytclkpbokngamiaa.Dt
theorem vT : VType Try.prog 23 :=
  ⟨by kernel_rfl, by kernel_rfl, ⟨5, by kernel_rfl, by kernel_rfl, by kernel_rfl⟩, ⟨2, by kernel_rfl, by kernel_rfl, by kernel_rfl⟩, ⟨9, by kernel_rfl, by kernel_rfl, by kernel_rfl⟩⟩
theorem exT : ExType Try.prog 27 :=
  ⟨by kernel_rfl, by kernel_rfl, ⟨5, by kernel_rfl, by kernel_rfl, by kernel_rfl⟩, ⟨23, by kernel_rfl, vT⟩, ⟨9, by kernel_rfl, by kernel_rfl, by kernel_rfl⟩, ⟨9, by kernel_rfl, by kernel_rfl, by kernel_rfl⟩,
    ⟨3, by kernel_rfl, by kernel_rfl, by kernel_rfl⟩, ⟨25, by kernel_rfl, by kernel_rfl, by kernel_rfl⟩⟩
end Go.Proofs.Ytclkpbokngamiaa.Dt
