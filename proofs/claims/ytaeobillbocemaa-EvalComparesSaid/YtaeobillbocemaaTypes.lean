/-
  The struct types of this program.
-/
import Derived.Test.YtaeobillbocemaaOpen
import Derived.Test.YtaeobillbocemaaProg
namespace Go.Proofs.Ytaeobillbocemaa.Dt
theorem vT : VType Try.prog 23 :=
  ⟨by kernel_rfl, by kernel_rfl, ⟨5, by kernel_rfl, by kernel_rfl, by kernel_rfl⟩, ⟨2, by kernel_rfl, by kernel_rfl, by kernel_rfl⟩, ⟨9, by kernel_rfl, by kernel_rfl, by kernel_rfl⟩⟩
theorem exT : ExType Try.prog 26 :=
  ⟨by kernel_rfl, by kernel_rfl, ⟨5, by kernel_rfl, by kernel_rfl, by kernel_rfl⟩, ⟨23, by kernel_rfl, vT⟩, ⟨9, by kernel_rfl, by kernel_rfl, by kernel_rfl⟩, ⟨9, by kernel_rfl, by kernel_rfl, by kernel_rfl⟩,
    ⟨3, by kernel_rfl, by kernel_rfl, by kernel_rfl⟩, ⟨24, by kernel_rfl, by kernel_rfl, by kernel_rfl⟩⟩
end Go.Proofs.Ytaeobillbocemaa.Dt
