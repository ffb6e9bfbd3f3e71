/-
  A byte as an element of a slice.
-/
import Derived.Test.YtghfaeapgghhlaaGreatDoorU8T
import Derived.Test.YtghfaeapgghhlaaGreatDoorOwn
namespace Go.Proofs.YtghfaeapgghhlaaGreatDoor.Num
open Go.RowKit Go.Proofs.YtghfaeapgghhlaaGreatDoor.By

theorem elem_u8 : Elem Tryz.prog 48 5 1 1 where
  slice := cv_u8
  info := by
    have h : (Tryz.prog.info? 5).map (fun i => (i.zero, i.size, i.bytes)) = some (some (.int .u8 0), 1, 1) := by kernel_rfl
    obtain ⟨i, hi, h1, h2, h3⟩ := info_parts h
    exact ⟨i, _, hi, h1, h2, h3, rfl⟩
  pos := by decide

end Go.Proofs.YtghfaeapgghhlaaGreatDoor.Num
