/-
  The world's shape tells what the variable of the greatest length reads as: some number.
-/
import Derived.Test.YtclkpbokngamiaaDoorKeyPut
namespace Go.Proofs.YtclkpbokngamiaaDoor.Dt
theorem maxAt {w : World} (h : w.ShapedOpen Tryd.prog) : MaxAt w := Tryd.laysM155.s1_3 w h
end Go.Proofs.YtclkpbokngamiaaDoor.Dt
