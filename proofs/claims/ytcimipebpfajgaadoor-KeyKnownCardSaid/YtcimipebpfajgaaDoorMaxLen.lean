/-
  The machine's own bound of a search.
-/
import Derived.Test.YtcimipebpfajgaaDoorShelf
import Derived.Test.YtcimipebpfajgaaDoorQuiet
import Derived.Test.YtcimipebpfajgaaDoorLater
namespace Go.Proofs.YtcimipebpfajgaaDoor.Dt
open Go.RowKit Go.Proofs.YtcimipebpfajgaaDoor.By

/-- The machine's own bound of a search lies where it lies. -/
def MaxAt (w : World) : Prop := ∃ m : Int, w.cell? ⟨0, 0, none⟩ = some (.int .i64 m)
theorem MaxAt.later {w w' : World} (h : MaxAt w) (hb : Below w.heap.size w w') : MaxAt w' := by
  obtain ⟨m, hm⟩ := h
  exact ⟨m, (hb.cell (cell_lt hm)).trans hm⟩
theorem str_size (l : List UInt8) : (ByteArray.mk l.toArray).size = l.length := by
  show l.toArray.size = _
  exact List.size_toArray
theorem maxAt {w : World} (h : w.ShapedOpen Tryd.prog) : MaxAt w := Tryd.laysM155.s1_3 w h
end Go.Proofs.YtcimipebpfajgaaDoor.Dt
