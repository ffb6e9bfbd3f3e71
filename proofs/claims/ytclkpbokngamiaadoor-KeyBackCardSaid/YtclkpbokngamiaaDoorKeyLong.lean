/-
  The walk of the laws' own 'long'.
-/
import Derived.Test.YtclkpbokngamiaaDoorKeyGreat
namespace Go.Proofs.YtclkpbokngamiaaDoor.Dt
open Go.RowKit Go.Proofs.YtclkpbokngamiaaDoor.By

set_option maxRecDepth 100000 in
theorem longK (s : ByteArray) (w : World) :
    Calls Tryd.prog 18 #[.string s] w fun e w' => ((e = .returned (.bool true)) ∨ (e = .returned (.bool false) ∧ s.size ≤ 8192)) ∧ Below w.heap.size w w' := by
  by_cases h : (8192 : Int) < (s.size : Int)
  · go_enter Tryd.func18, Tryd.ntmps18
    go_wp2_with fail
    go_ret
    exact ⟨.inl rfl, Below.refl _ _⟩
  · have h2 : s.size ≤ 8192 := by omega
    have H2 := Lib.hid h2
    clear h2
    go_enter Tryd.func18, Tryd.ntmps18
    go_wp2_with fail
    go_ret
    exact ⟨.inr ⟨rfl, H2.out⟩, Below.refl _ _⟩
end Go.Proofs.YtclkpbokngamiaaDoor.Dt
