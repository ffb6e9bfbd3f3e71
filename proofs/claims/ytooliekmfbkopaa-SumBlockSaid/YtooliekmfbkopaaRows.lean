/-
  No cell of these rows narrows 'for every input' (looked for: loops, veiled, ifaces, maps, wideKeys, modest, calm, conditions, laid).
  DERIVED. THE GIVEN ROWS OF THIS SEAT. 17 by the template 'for every input the law returns true; each argument reads behind the call as it read before'; 0 by the template 'total and deterministic' (their statements: YtooliekmfbkopaaTotals.lean).
  GIVEN WITH THE SEED: the statements are not yours to turn. If you find one false, say at which input.
  Laid BY PROGRAM, IN A SANDBOX (cutbox-rows.mjs): the forced cells as the released guide's own fill.sh prints them over the translation 41cc67b0406a4667… (all of the seat's roots in one cut). By AI agents, Wed Nov 11 2026. No macro, syntax, notation, axiom, sorry.
-/
import Derived.Test.YtooliekmfbkopaaChecked
import GoSem.Claim
import GoSem.ClaimJoined
import GoSem.ClaimMapViews
import Derived.JoinedTies
import Derived.KernelRfl
namespace Go.Proofs.Ytooliekmfbkopaa
/- THE CELL 'sum', in the pinned program and in every row, IS THE sha256 OF THE DUMP (.gsa) THAT YtooliekmfbkopaaProg.lean LOADS. Nothing in Lean hashes anything: it is a label: what it is worth is what the hold of that sum in a sandbox is worth. -/
noncomputable def Try.pinned : Pinned := { name := "ytooliekmfbkopaa", sum := "41cc67b0406a466779001acbf827567a780292da1469da17397bbf769bc55a0e", checked := Try.checked }
namespace Rows
def none {H : Type} : Left H := { results := [], args := [] }

/-- 'counterfoillaw01.NumberPuts': WHATEVER THE INPUT: true; the input reads as it did. -/
def numberPutsSpec : ChangeSpec := { name := "numberPuts", fn := fun _ => fun
  | [d] => { results := [.lit (.bool true)], args := [d] }
  | _ => none }
def numberPutsRow : OpenClaim := { program := "ytooliekmfbkopaa", sum := "41cc67b0406a466779001acbf827567a780292da1469da17397bbf769bc55a0e", func := "counterfoil/counterfoillaw01.NumberPuts", spec := "numberPuts", apart := false }
def NumberPutsSaid : Prop := numberPutsRow.holds Try.pinned (OpenSpec.ofChange numberPutsSpec)

/-- ITS FALSE NEIGHBOUR: 'it returns false'. Refute it at one input. -/
def numberPutsWrong : ChangeSpec := { name := "numberPuts", fn := fun _ => fun
  | [d] => { results := [.lit (.bool false)], args := [d] }
  | _ => none }
def NumberPutsWrongFalsely : Prop := numberPutsRow.holds Try.pinned (OpenSpec.ofChange numberPutsWrong)

/-- 'counterfoillaw02.SumAdds': WHATEVER THE INPUT: true; the input reads as it did. -/
def sumAddsSpec : ChangeSpec := { name := "sumAdds", fn := fun _ => fun
  | [d1, d2] => { results := [.lit (.bool true)], args := [d1, d2] }
  | _ => none }
def sumAddsRow : OpenClaim := { program := "ytooliekmfbkopaa", sum := "41cc67b0406a466779001acbf827567a780292da1469da17397bbf769bc55a0e", func := "counterfoil/counterfoillaw02.SumAdds", spec := "sumAdds", unfollowed := true, recurses := true, apart := false }
def SumAddsSaid : Prop := sumAddsRow.holds Try.pinned (OpenSpec.ofChange sumAddsSpec)

/-- ITS FALSE NEIGHBOUR: 'it returns false'. Refute it at one input. -/
def sumAddsWrong : ChangeSpec := { name := "sumAdds", fn := fun _ => fun
  | [d1, d2] => { results := [.lit (.bool false)], args := [d1, d2] }
  | _ => none }
def SumAddsWrongFalsely : Prop := sumAddsRow.holds Try.pinned (OpenSpec.ofChange sumAddsWrong)

/-- 'counterfoillaw02.SumTexts': WHATEVER THE INPUT: true; the input reads as it did. -/
def sumTextsSpec : ChangeSpec := { name := "sumTexts", fn := fun _ => fun
  | [d1, d2] => { results := [.lit (.bool true)], args := [d1, d2] }
  | _ => none }
def sumTextsRow : OpenClaim := { program := "ytooliekmfbkopaa", sum := "41cc67b0406a466779001acbf827567a780292da1469da17397bbf769bc55a0e", func := "counterfoil/counterfoillaw02.SumTexts", spec := "sumTexts", apart := false }
def SumTextsSaid : Prop := sumTextsRow.holds Try.pinned (OpenSpec.ofChange sumTextsSpec)

/-- ITS FALSE NEIGHBOUR: 'it returns false'. Refute it at one input. -/
def sumTextsWrong : ChangeSpec := { name := "sumTexts", fn := fun _ => fun
  | [d1, d2] => { results := [.lit (.bool false)], args := [d1, d2] }
  | _ => none }
def SumTextsWrongFalsely : Prop := sumTextsRow.holds Try.pinned (OpenSpec.ofChange sumTextsWrong)

/-- 'counterfoillaw02.SumBlock': WHATEVER THE INPUT: true; the input reads as it did. -/
def sumBlockSpec : ChangeSpec := { name := "sumBlock", fn := fun _ => fun
  | [d1, d2, d3, d4] => { results := [.lit (.bool true)], args := [d1, d2, d3, d4] }
  | _ => none }
def sumBlockRow : OpenClaim := { program := "ytooliekmfbkopaa", sum := "41cc67b0406a466779001acbf827567a780292da1469da17397bbf769bc55a0e", func := "counterfoil/counterfoillaw02.SumBlock", spec := "sumBlock", unfollowed := true, recurses := true, apart := false }
def SumBlockSaid : Prop := sumBlockRow.holds Try.pinned (OpenSpec.ofChange sumBlockSpec)

/-- ITS FALSE NEIGHBOUR: 'it returns false'. Refute it at one input. -/
def sumBlockWrong : ChangeSpec := { name := "sumBlock", fn := fun _ => fun
  | [d1, d2, d3, d4] => { results := [.lit (.bool false)], args := [d1, d2, d3, d4] }
  | _ => none }
def SumBlockWrongFalsely : Prop := sumBlockRow.holds Try.pinned (OpenSpec.ofChange sumBlockWrong)

/-- 'counterfoillaw02.SumJoins': WHATEVER THE INPUT: true; the input reads as it did. -/
def sumJoinsSpec : ChangeSpec := { name := "sumJoins", fn := fun _ => fun
  | [d1, d2, d3] => { results := [.lit (.bool true)], args := [d1, d2, d3] }
  | _ => none }
def sumJoinsRow : OpenClaim := { program := "ytooliekmfbkopaa", sum := "41cc67b0406a466779001acbf827567a780292da1469da17397bbf769bc55a0e", func := "counterfoil/counterfoillaw02.SumJoins", spec := "sumJoins", unfollowed := true, recurses := true, apart := false }
def SumJoinsSaid : Prop := sumJoinsRow.holds Try.pinned (OpenSpec.ofChange sumJoinsSpec)

/-- ITS FALSE NEIGHBOUR: 'it returns false'. Refute it at one input. -/
def sumJoinsWrong : ChangeSpec := { name := "sumJoins", fn := fun _ => fun
  | [d1, d2, d3] => { results := [.lit (.bool false)], args := [d1, d2, d3] }
  | _ => none }
def SumJoinsWrongFalsely : Prop := sumJoinsRow.holds Try.pinned (OpenSpec.ofChange sumJoinsWrong)

/-- 'counterfoillaw02.SumOne': WHATEVER THE INPUT: true; the input reads as it did. -/
def sumOneSpec : ChangeSpec := { name := "sumOne", fn := fun _ => fun
  | [d1, d2, d3] => { results := [.lit (.bool true)], args := [d1, d2, d3] }
  | _ => none }
def sumOneRow : OpenClaim := { program := "ytooliekmfbkopaa", sum := "41cc67b0406a466779001acbf827567a780292da1469da17397bbf769bc55a0e", func := "counterfoil/counterfoillaw02.SumOne", spec := "sumOne", unfollowed := true, recurses := true, apart := false }
def SumOneSaid : Prop := sumOneRow.holds Try.pinned (OpenSpec.ofChange sumOneSpec)

/-- ITS FALSE NEIGHBOUR: 'it returns false'. Refute it at one input. -/
def sumOneWrong : ChangeSpec := { name := "sumOne", fn := fun _ => fun
  | [d1, d2, d3] => { results := [.lit (.bool false)], args := [d1, d2, d3] }
  | _ => none }
def SumOneWrongFalsely : Prop := sumOneRow.holds Try.pinned (OpenSpec.ofChange sumOneWrong)

/-- 'counterfoillaw02.SumBack': WHATEVER THE INPUT: true; the input reads as it did. -/
def sumBackSpec : ChangeSpec := { name := "sumBack", fn := fun _ => fun
  | [d1, d2] => { results := [.lit (.bool true)], args := [d1, d2] }
  | _ => none }
def sumBackRow : OpenClaim := { program := "ytooliekmfbkopaa", sum := "41cc67b0406a466779001acbf827567a780292da1469da17397bbf769bc55a0e", func := "counterfoil/counterfoillaw02.SumBack", spec := "sumBack", unfollowed := true, recurses := true, apart := false }
def SumBackSaid : Prop := sumBackRow.holds Try.pinned (OpenSpec.ofChange sumBackSpec)

/-- ITS FALSE NEIGHBOUR: 'it returns false'. Refute it at one input. -/
def sumBackWrong : ChangeSpec := { name := "sumBack", fn := fun _ => fun
  | [d1, d2] => { results := [.lit (.bool false)], args := [d1, d2] }
  | _ => none }
def SumBackWrongFalsely : Prop := sumBackRow.holds Try.pinned (OpenSpec.ofChange sumBackWrong)

/-- 'counterfoillaw02.SumApart': WHATEVER THE INPUT: true; the input reads as it did. -/
def sumApartSpec : ChangeSpec := { name := "sumApart", fn := fun _ => fun
  | [d1, d2, d3] => { results := [.lit (.bool true)], args := [d1, d2, d3] }
  | _ => none }
def sumApartRow : OpenClaim := { program := "ytooliekmfbkopaa", sum := "41cc67b0406a466779001acbf827567a780292da1469da17397bbf769bc55a0e", func := "counterfoil/counterfoillaw02.SumApart", spec := "sumApart", unfollowed := true, recurses := true, apart := false }
def SumApartSaid : Prop := sumApartRow.holds Try.pinned (OpenSpec.ofChange sumApartSpec)

/-- ITS FALSE NEIGHBOUR: 'it returns false'. Refute it at one input. -/
def sumApartWrong : ChangeSpec := { name := "sumApart", fn := fun _ => fun
  | [d1, d2, d3] => { results := [.lit (.bool false)], args := [d1, d2, d3] }
  | _ => none }
def SumApartWrongFalsely : Prop := sumApartRow.holds Try.pinned (OpenSpec.ofChange sumApartWrong)

/-- 'counterfoillaw01.NumberBack': WHATEVER THE INPUT: true; the input reads as it did. -/
def numberBackSpec : ChangeSpec := { name := "numberBack", fn := fun _ => fun
  | [d1, d2] => { results := [.lit (.bool true)], args := [d1, d2] }
  | _ => none }
def numberBackRow : OpenClaim := { program := "ytooliekmfbkopaa", sum := "41cc67b0406a466779001acbf827567a780292da1469da17397bbf769bc55a0e", func := "counterfoil/counterfoillaw01.NumberBack", spec := "numberBack", unfollowed := true, recurses := true, apart := false }
def NumberBackSaid : Prop := numberBackRow.holds Try.pinned (OpenSpec.ofChange numberBackSpec)

/-- ITS FALSE NEIGHBOUR: 'it returns false'. Refute it at one input. -/
def numberBackWrong : ChangeSpec := { name := "numberBack", fn := fun _ => fun
  | [d1, d2] => { results := [.lit (.bool false)], args := [d1, d2] }
  | _ => none }
def NumberBackWrongFalsely : Prop := numberBackRow.holds Try.pinned (OpenSpec.ofChange numberBackWrong)

/-- 'counterfoillaw02.SumKnown': WHATEVER THE INPUT: true; the input reads as it did. -/
def sumKnownSpec : ChangeSpec := { name := "sumKnown", fn := fun _ => fun
  | [] => { results := [.lit (.bool true)], args := [] }
  | _ => none }
def sumKnownRow : OpenClaim := { program := "ytooliekmfbkopaa", sum := "41cc67b0406a466779001acbf827567a780292da1469da17397bbf769bc55a0e", func := "counterfoil/counterfoillaw02.SumKnown", spec := "sumKnown", unfollowed := true, recurses := true, apart := false }
def SumKnownSaid : Prop := sumKnownRow.holds Try.pinned (OpenSpec.ofChange sumKnownSpec)

/-- ITS FALSE NEIGHBOUR: 'it returns false'. Refute it at one input. -/
def sumKnownWrong : ChangeSpec := { name := "sumKnown", fn := fun _ => fun
  | [] => { results := [.lit (.bool false)], args := [] }
  | _ => none }
def SumKnownWrongFalsely : Prop := sumKnownRow.holds Try.pinned (OpenSpec.ofChange sumKnownWrong)

/-- 'counterfoillaw01.NumberTakes': WHATEVER THE INPUT: true; the input reads as it did. -/
def numberTakesSpec : ChangeSpec := { name := "numberTakes", fn := fun _ => fun
  | [d] => { results := [.lit (.bool true)], args := [d] }
  | _ => none }
def numberTakesRow : OpenClaim := { program := "ytooliekmfbkopaa", sum := "41cc67b0406a466779001acbf827567a780292da1469da17397bbf769bc55a0e", func := "counterfoil/counterfoillaw01.NumberTakes", spec := "numberTakes", unfollowed := true, recurses := true, apart := false }
def NumberTakesSaid : Prop := numberTakesRow.holds Try.pinned (OpenSpec.ofChange numberTakesSpec)

/-- ITS FALSE NEIGHBOUR: 'it returns false'. Refute it at one input. -/
def numberTakesWrong : ChangeSpec := { name := "numberTakes", fn := fun _ => fun
  | [d] => { results := [.lit (.bool false)], args := [d] }
  | _ => none }
def NumberTakesWrongFalsely : Prop := numberTakesRow.holds Try.pinned (OpenSpec.ofChange numberTakesWrong)

/-- 'counterfoillaw01.NumberForm': WHATEVER THE INPUT: true; the input reads as it did. -/
def numberFormSpec : ChangeSpec := { name := "numberForm", fn := fun _ => fun
  | [d] => { results := [.lit (.bool true)], args := [d] }
  | _ => none }
def numberFormRow : OpenClaim := { program := "ytooliekmfbkopaa", sum := "41cc67b0406a466779001acbf827567a780292da1469da17397bbf769bc55a0e", func := "counterfoil/counterfoillaw01.NumberForm", spec := "numberForm", apart := false }
def NumberFormSaid : Prop := numberFormRow.holds Try.pinned (OpenSpec.ofChange numberFormSpec)

/-- ITS FALSE NEIGHBOUR: 'it returns false'. Refute it at one input. -/
def numberFormWrong : ChangeSpec := { name := "numberForm", fn := fun _ => fun
  | [d] => { results := [.lit (.bool false)], args := [d] }
  | _ => none }
def NumberFormWrongFalsely : Prop := numberFormRow.holds Try.pinned (OpenSpec.ofChange numberFormWrong)

/-- 'counterfoillaw01.NumberRising': WHATEVER THE INPUT: true; the input reads as it did. -/
def numberRisingSpec : ChangeSpec := { name := "numberRising", fn := fun _ => fun
  | [d1, d2] => { results := [.lit (.bool true)], args := [d1, d2] }
  | _ => none }
def numberRisingRow : OpenClaim := { program := "ytooliekmfbkopaa", sum := "41cc67b0406a466779001acbf827567a780292da1469da17397bbf769bc55a0e", func := "counterfoil/counterfoillaw01.NumberRising", spec := "numberRising", apart := false }
def NumberRisingSaid : Prop := numberRisingRow.holds Try.pinned (OpenSpec.ofChange numberRisingSpec)

/-- ITS FALSE NEIGHBOUR: 'it returns false'. Refute it at one input. -/
def numberRisingWrong : ChangeSpec := { name := "numberRising", fn := fun _ => fun
  | [d1, d2] => { results := [.lit (.bool false)], args := [d1, d2] }
  | _ => none }
def NumberRisingWrongFalsely : Prop := numberRisingRow.holds Try.pinned (OpenSpec.ofChange numberRisingWrong)

/-- 'counterfoillaw01.NumberSizes': WHATEVER THE INPUT: true; the input reads as it did. -/
def numberSizesSpec : ChangeSpec := { name := "numberSizes", fn := fun _ => fun
  | [d1, d2] => { results := [.lit (.bool true)], args := [d1, d2] }
  | _ => none }
def numberSizesRow : OpenClaim := { program := "ytooliekmfbkopaa", sum := "41cc67b0406a466779001acbf827567a780292da1469da17397bbf769bc55a0e", func := "counterfoil/counterfoillaw01.NumberSizes", spec := "numberSizes", apart := false }
def NumberSizesSaid : Prop := numberSizesRow.holds Try.pinned (OpenSpec.ofChange numberSizesSpec)

/-- ITS FALSE NEIGHBOUR: 'it returns false'. Refute it at one input. -/
def numberSizesWrong : ChangeSpec := { name := "numberSizes", fn := fun _ => fun
  | [d1, d2] => { results := [.lit (.bool false)], args := [d1, d2] }
  | _ => none }
def NumberSizesWrongFalsely : Prop := numberSizesRow.holds Try.pinned (OpenSpec.ofChange numberSizesWrong)

/-- 'counterfoillaw01.NumberFolds': WHATEVER THE INPUT: true; the input reads as it did. -/
def numberFoldsSpec : ChangeSpec := { name := "numberFolds", fn := fun _ => fun
  | [d1, d2, d3] => { results := [.lit (.bool true)], args := [d1, d2, d3] }
  | _ => none }
def numberFoldsRow : OpenClaim := { program := "ytooliekmfbkopaa", sum := "41cc67b0406a466779001acbf827567a780292da1469da17397bbf769bc55a0e", func := "counterfoil/counterfoillaw01.NumberFolds", spec := "numberFolds", apart := false }
def NumberFoldsSaid : Prop := numberFoldsRow.holds Try.pinned (OpenSpec.ofChange numberFoldsSpec)

/-- ITS FALSE NEIGHBOUR: 'it returns false'. Refute it at one input. -/
def numberFoldsWrong : ChangeSpec := { name := "numberFolds", fn := fun _ => fun
  | [d1, d2, d3] => { results := [.lit (.bool false)], args := [d1, d2, d3] }
  | _ => none }
def NumberFoldsWrongFalsely : Prop := numberFoldsRow.holds Try.pinned (OpenSpec.ofChange numberFoldsWrong)

/-- 'counterfoillaw01.NumberFixed': WHATEVER THE INPUT: true; the input reads as it did. -/
def numberFixedSpec : ChangeSpec := { name := "numberFixed", fn := fun _ => fun
  | [d1, d2, d3] => { results := [.lit (.bool true)], args := [d1, d2, d3] }
  | _ => none }
def numberFixedRow : OpenClaim := { program := "ytooliekmfbkopaa", sum := "41cc67b0406a466779001acbf827567a780292da1469da17397bbf769bc55a0e", func := "counterfoil/counterfoillaw01.NumberFixed", spec := "numberFixed", apart := false }
def NumberFixedSaid : Prop := numberFixedRow.holds Try.pinned (OpenSpec.ofChange numberFixedSpec)

/-- ITS FALSE NEIGHBOUR: 'it returns false'. Refute it at one input. -/
def numberFixedWrong : ChangeSpec := { name := "numberFixed", fn := fun _ => fun
  | [d1, d2, d3] => { results := [.lit (.bool false)], args := [d1, d2, d3] }
  | _ => none }
def NumberFixedWrongFalsely : Prop := numberFixedRow.holds Try.pinned (OpenSpec.ofChange numberFixedWrong)

/-- 'counterfoillaw01.NumberKnown': WHATEVER THE INPUT: true; the input reads as it did. -/
def numberKnownSpec : ChangeSpec := { name := "numberKnown", fn := fun _ => fun
  | [] => { results := [.lit (.bool true)], args := [] }
  | _ => none }
def numberKnownRow : OpenClaim := { program := "ytooliekmfbkopaa", sum := "41cc67b0406a466779001acbf827567a780292da1469da17397bbf769bc55a0e", func := "counterfoil/counterfoillaw01.NumberKnown", spec := "numberKnown", unfollowed := true, recurses := true, apart := false }
def NumberKnownSaid : Prop := numberKnownRow.holds Try.pinned (OpenSpec.ofChange numberKnownSpec)

/-- ITS FALSE NEIGHBOUR: 'it returns false'. Refute it at one input. -/
def numberKnownWrong : ChangeSpec := { name := "numberKnown", fn := fun _ => fun
  | [] => { results := [.lit (.bool false)], args := [] }
  | _ => none }
def NumberKnownWrongFalsely : Prop := numberKnownRow.holds Try.pinned (OpenSpec.ofChange numberKnownWrong)

/- THE SECOND FORM. 'bulk': how many values and letters a reading holds, each counted each time it is reached (what is shared counts as often as it is met; a slice's spare places count too). A statement '..UptoSaid' is the law's where the arguments, and the package variables that the reading takes, are together of bulk at most 1048576: NARROWER than '..Said'. Prove '..Said' where nothing that the law and all that it calls make is longer than what came in: it says more and counts as full. Else prove '..UptoSaid'. A law counts once. -/
mutual
def uptoBulk {H : Type} : DataW H → Nat
  | .lit (.string bytes) => bytes.length + 1
  | .lit _ => 1
  | .nil => 1
  | .ptr d => uptoBulk d + 1
  | .slice elems spare => uptoBulkAll elems + uptoBulkAll spare + 1
  | .agg parts => uptoBulkAll parts + 1
  | .iface _ d => uptoBulk d + 1
  | .map entries => uptoBulkEntries entries + 1
  | .held _ => 1
def uptoBulkAll {H : Type} : List (DataW H) → Nat
  | [] => 0
  | d :: r => uptoBulk d + uptoBulkAll r
def uptoBulkEntries {H : Type} : List (Lit × DataW H) → Nat
  | [] => 0
  | x :: r => uptoBulkEntry x + uptoBulkEntries r
def uptoBulkEntry {H : Type} : Lit × DataW H → Nat
  | (.string bytes, d) => bytes.length + uptoBulk d + 1
  | (_, d) => uptoBulk d + 1
 end
def uptoSmall : (H : Type) → List (DataW H) → Bool := fun _ ds => decide (uptoBulkAll ds ≤ 1048576)
def OpenSpec.upto (s : _root_.Go.ChangeSpec) : _root_.Go.OpenSpec := { _root_.Go.OpenSpec.ofChange s with cond := some uptoSmall }

/-- 'counterfoillaw01.NumberPuts', WHERE WHAT IT READS IS OF BULK AT MOST 1048576: true; the input reads as it did. -/
def numberPutsUptoRow : OpenClaim := { program := "ytooliekmfbkopaa", sum := "41cc67b0406a466779001acbf827567a780292da1469da17397bbf769bc55a0e", func := "counterfoil/counterfoillaw01.NumberPuts", spec := "numberPuts", apart := false, narrowed := true }
def NumberPutsUptoSaid : Prop := numberPutsUptoRow.holds Try.pinned (OpenSpec.upto numberPutsSpec)

/-- 'counterfoillaw02.SumAdds', WHERE WHAT IT READS IS OF BULK AT MOST 1048576: true; the input reads as it did. -/
def sumAddsUptoRow : OpenClaim := { program := "ytooliekmfbkopaa", sum := "41cc67b0406a466779001acbf827567a780292da1469da17397bbf769bc55a0e", func := "counterfoil/counterfoillaw02.SumAdds", spec := "sumAdds", unfollowed := true, recurses := true, apart := false, narrowed := true }
def SumAddsUptoSaid : Prop := sumAddsUptoRow.holds Try.pinned (OpenSpec.upto sumAddsSpec)

/-- 'counterfoillaw02.SumTexts', WHERE WHAT IT READS IS OF BULK AT MOST 1048576: true; the input reads as it did. -/
def sumTextsUptoRow : OpenClaim := { program := "ytooliekmfbkopaa", sum := "41cc67b0406a466779001acbf827567a780292da1469da17397bbf769bc55a0e", func := "counterfoil/counterfoillaw02.SumTexts", spec := "sumTexts", apart := false, narrowed := true }
def SumTextsUptoSaid : Prop := sumTextsUptoRow.holds Try.pinned (OpenSpec.upto sumTextsSpec)

/-- 'counterfoillaw02.SumBlock', WHERE WHAT IT READS IS OF BULK AT MOST 1048576: true; the input reads as it did. -/
def sumBlockUptoRow : OpenClaim := { program := "ytooliekmfbkopaa", sum := "41cc67b0406a466779001acbf827567a780292da1469da17397bbf769bc55a0e", func := "counterfoil/counterfoillaw02.SumBlock", spec := "sumBlock", unfollowed := true, recurses := true, apart := false, narrowed := true }
def SumBlockUptoSaid : Prop := sumBlockUptoRow.holds Try.pinned (OpenSpec.upto sumBlockSpec)

/-- 'counterfoillaw02.SumJoins', WHERE WHAT IT READS IS OF BULK AT MOST 1048576: true; the input reads as it did. -/
def sumJoinsUptoRow : OpenClaim := { program := "ytooliekmfbkopaa", sum := "41cc67b0406a466779001acbf827567a780292da1469da17397bbf769bc55a0e", func := "counterfoil/counterfoillaw02.SumJoins", spec := "sumJoins", unfollowed := true, recurses := true, apart := false, narrowed := true }
def SumJoinsUptoSaid : Prop := sumJoinsUptoRow.holds Try.pinned (OpenSpec.upto sumJoinsSpec)

/-- 'counterfoillaw02.SumOne', WHERE WHAT IT READS IS OF BULK AT MOST 1048576: true; the input reads as it did. -/
def sumOneUptoRow : OpenClaim := { program := "ytooliekmfbkopaa", sum := "41cc67b0406a466779001acbf827567a780292da1469da17397bbf769bc55a0e", func := "counterfoil/counterfoillaw02.SumOne", spec := "sumOne", unfollowed := true, recurses := true, apart := false, narrowed := true }
def SumOneUptoSaid : Prop := sumOneUptoRow.holds Try.pinned (OpenSpec.upto sumOneSpec)

/-- 'counterfoillaw02.SumBack', WHERE WHAT IT READS IS OF BULK AT MOST 1048576: true; the input reads as it did. -/
def sumBackUptoRow : OpenClaim := { program := "ytooliekmfbkopaa", sum := "41cc67b0406a466779001acbf827567a780292da1469da17397bbf769bc55a0e", func := "counterfoil/counterfoillaw02.SumBack", spec := "sumBack", unfollowed := true, recurses := true, apart := false, narrowed := true }
def SumBackUptoSaid : Prop := sumBackUptoRow.holds Try.pinned (OpenSpec.upto sumBackSpec)

/-- 'counterfoillaw02.SumApart', WHERE WHAT IT READS IS OF BULK AT MOST 1048576: true; the input reads as it did. -/
def sumApartUptoRow : OpenClaim := { program := "ytooliekmfbkopaa", sum := "41cc67b0406a466779001acbf827567a780292da1469da17397bbf769bc55a0e", func := "counterfoil/counterfoillaw02.SumApart", spec := "sumApart", unfollowed := true, recurses := true, apart := false, narrowed := true }
def SumApartUptoSaid : Prop := sumApartUptoRow.holds Try.pinned (OpenSpec.upto sumApartSpec)

/-- 'counterfoillaw01.NumberBack', WHERE WHAT IT READS IS OF BULK AT MOST 1048576: true; the input reads as it did. -/
def numberBackUptoRow : OpenClaim := { program := "ytooliekmfbkopaa", sum := "41cc67b0406a466779001acbf827567a780292da1469da17397bbf769bc55a0e", func := "counterfoil/counterfoillaw01.NumberBack", spec := "numberBack", unfollowed := true, recurses := true, apart := false, narrowed := true }
def NumberBackUptoSaid : Prop := numberBackUptoRow.holds Try.pinned (OpenSpec.upto numberBackSpec)

/-- 'counterfoillaw02.SumKnown', WHERE WHAT IT READS IS OF BULK AT MOST 1048576: true; the input reads as it did. -/
def sumKnownUptoRow : OpenClaim := { program := "ytooliekmfbkopaa", sum := "41cc67b0406a466779001acbf827567a780292da1469da17397bbf769bc55a0e", func := "counterfoil/counterfoillaw02.SumKnown", spec := "sumKnown", unfollowed := true, recurses := true, apart := false, narrowed := true }
def SumKnownUptoSaid : Prop := sumKnownUptoRow.holds Try.pinned (OpenSpec.upto sumKnownSpec)

/-- 'counterfoillaw01.NumberTakes', WHERE WHAT IT READS IS OF BULK AT MOST 1048576: true; the input reads as it did. -/
def numberTakesUptoRow : OpenClaim := { program := "ytooliekmfbkopaa", sum := "41cc67b0406a466779001acbf827567a780292da1469da17397bbf769bc55a0e", func := "counterfoil/counterfoillaw01.NumberTakes", spec := "numberTakes", unfollowed := true, recurses := true, apart := false, narrowed := true }
def NumberTakesUptoSaid : Prop := numberTakesUptoRow.holds Try.pinned (OpenSpec.upto numberTakesSpec)

/-- 'counterfoillaw01.NumberForm', WHERE WHAT IT READS IS OF BULK AT MOST 1048576: true; the input reads as it did. -/
def numberFormUptoRow : OpenClaim := { program := "ytooliekmfbkopaa", sum := "41cc67b0406a466779001acbf827567a780292da1469da17397bbf769bc55a0e", func := "counterfoil/counterfoillaw01.NumberForm", spec := "numberForm", apart := false, narrowed := true }
def NumberFormUptoSaid : Prop := numberFormUptoRow.holds Try.pinned (OpenSpec.upto numberFormSpec)

/-- 'counterfoillaw01.NumberRising', WHERE WHAT IT READS IS OF BULK AT MOST 1048576: true; the input reads as it did. -/
def numberRisingUptoRow : OpenClaim := { program := "ytooliekmfbkopaa", sum := "41cc67b0406a466779001acbf827567a780292da1469da17397bbf769bc55a0e", func := "counterfoil/counterfoillaw01.NumberRising", spec := "numberRising", apart := false, narrowed := true }
def NumberRisingUptoSaid : Prop := numberRisingUptoRow.holds Try.pinned (OpenSpec.upto numberRisingSpec)

/-- 'counterfoillaw01.NumberSizes', WHERE WHAT IT READS IS OF BULK AT MOST 1048576: true; the input reads as it did. -/
def numberSizesUptoRow : OpenClaim := { program := "ytooliekmfbkopaa", sum := "41cc67b0406a466779001acbf827567a780292da1469da17397bbf769bc55a0e", func := "counterfoil/counterfoillaw01.NumberSizes", spec := "numberSizes", apart := false, narrowed := true }
def NumberSizesUptoSaid : Prop := numberSizesUptoRow.holds Try.pinned (OpenSpec.upto numberSizesSpec)

/-- 'counterfoillaw01.NumberFolds', WHERE WHAT IT READS IS OF BULK AT MOST 1048576: true; the input reads as it did. -/
def numberFoldsUptoRow : OpenClaim := { program := "ytooliekmfbkopaa", sum := "41cc67b0406a466779001acbf827567a780292da1469da17397bbf769bc55a0e", func := "counterfoil/counterfoillaw01.NumberFolds", spec := "numberFolds", apart := false, narrowed := true }
def NumberFoldsUptoSaid : Prop := numberFoldsUptoRow.holds Try.pinned (OpenSpec.upto numberFoldsSpec)

/-- 'counterfoillaw01.NumberFixed', WHERE WHAT IT READS IS OF BULK AT MOST 1048576: true; the input reads as it did. -/
def numberFixedUptoRow : OpenClaim := { program := "ytooliekmfbkopaa", sum := "41cc67b0406a466779001acbf827567a780292da1469da17397bbf769bc55a0e", func := "counterfoil/counterfoillaw01.NumberFixed", spec := "numberFixed", apart := false, narrowed := true }
def NumberFixedUptoSaid : Prop := numberFixedUptoRow.holds Try.pinned (OpenSpec.upto numberFixedSpec)

/-- 'counterfoillaw01.NumberKnown', WHERE WHAT IT READS IS OF BULK AT MOST 1048576: true; the input reads as it did. -/
def numberKnownUptoRow : OpenClaim := { program := "ytooliekmfbkopaa", sum := "41cc67b0406a466779001acbf827567a780292da1469da17397bbf769bc55a0e", func := "counterfoil/counterfoillaw01.NumberKnown", spec := "numberKnown", unfollowed := true, recurses := true, apart := false, narrowed := true }
def NumberKnownUptoSaid : Prop := numberKnownUptoRow.holds Try.pinned (OpenSpec.upto numberKnownSpec)

end Rows
end Go.Proofs.Ytooliekmfbkopaa
