/-
  A byte as an element of a slice.
-/
import Derived.Test.YtcimipebpfajgaaDoorU8T
import Derived.Test.YtcimipebpfajgaaDoorOwn
namespace Go.Proofs.YtcimipebpfajgaaDoor.Num
open Go.RowKit Go.Proofs.YtcimipebpfajgaaDoor.By

theorem elem_u8 : Elem Tryd.prog 37 5 1 1 where
  slice := cv_u8
  info := by
    have h : (Tryd.prog.info? 5).map (fun i => (i.zero, i.size, i.bytes)) = some (some (.int .u8 0), 1, 1) := by kernel_rfl
    obtain ⟨i, hi, h1, h2, h3⟩ := info_parts h
    exact ⟨i, _, hi, h1, h2, h3, rfl⟩
  pos := by decide

end Go.Proofs.YtcimipebpfajgaaDoor.Num
