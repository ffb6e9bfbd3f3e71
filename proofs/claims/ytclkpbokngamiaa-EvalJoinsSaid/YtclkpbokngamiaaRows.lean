/-
  No cell of these rows narrows 'for every input' (looked for: loops, veiled, ifaces, maps, wideKeys, modest, calm, conditions, laid).
  DERIVED. THE GIVEN ROWS OF THIS SEAT. 3 by the template 'for every input the law returns true; each argument reads behind the call as it read before'; 0 by the template 'total and deterministic' (their statements: YtclkpbokngamiaaTotals.lean).
  GIVEN WITH THE SEED: the statements are not yours to turn. If you find one false, say at which input.
  Laid BY PROGRAM, IN A SANDBOX (cutbox-rows.mjs): the forced cells as the released guide's own fill.sh prints them over the translation 7cf2073043d98806… (all of the seat's roots in one cut). By AI agents, Wed Nov 11 2026. No macro, syntax, notation, axiom, sorry.
-/
import Derived.Test.YtclkpbokngamiaaChecked
import GoSem.Claim
import GoSem.ClaimJoined
import GoSem.ClaimMapViews
import Derived.JoinedTies
import Derived.KernelRfl
namespace Go.Proofs.Ytclkpbokngamiaa
/- THE CELL 'sum', in the pinned program and in every row, IS THE sha256 OF THE DUMP (.gsa) THAT YtclkpbokngamiaaProg.lean LOADS. Nothing in Lean hashes anything: it is a label: what it is worth is what the hold of that sum in a sandbox is worth. -/
noncomputable def Try.pinned : Pinned := { name := "ytclkpbokngamiaa", sum := "7cf2073043d98806774bb4b0eea913202ef32d4b6070007ce77dc10a80df1cae", checked := Try.checked }
namespace Rows
def none {H : Type} : Left H := { results := [], args := [] }

/-- 'counterfoillaw15.EvalLogic': WHATEVER THE INPUT: true; the input reads as it did. -/
def evalLogicSpec : ChangeSpec := { name := "evalLogic", fn := fun _ => fun
  | [d1, d2] => { results := [.lit (.bool true)], args := [d1, d2] }
  | _ => none }
def evalLogicRow : OpenClaim := { program := "ytclkpbokngamiaa", sum := "7cf2073043d98806774bb4b0eea913202ef32d4b6070007ce77dc10a80df1cae", func := "counterfoil/counterfoillaw15.EvalLogic", spec := "evalLogic", inPlace := ["internal/bytealg.abigen_runtime_cmpstring", "math/bits.Add64"], unfollowed := true, recurses := true, apart := false }
def EvalLogicSaid : Prop := evalLogicRow.holds Try.pinned (OpenSpec.ofChange evalLogicSpec)

/-- ITS FALSE NEIGHBOUR: 'it returns false'. Refute it at one input. -/
def evalLogicWrong : ChangeSpec := { name := "evalLogic", fn := fun _ => fun
  | [d1, d2] => { results := [.lit (.bool false)], args := [d1, d2] }
  | _ => none }
def EvalLogicWrongFalsely : Prop := evalLogicRow.holds Try.pinned (OpenSpec.ofChange evalLogicWrong)

/-- 'counterfoillaw15.EvalJoins': WHATEVER THE INPUT: true; the input reads as it did. -/
def evalJoinsSpec : ChangeSpec := { name := "evalJoins", fn := fun _ => fun
  | [d1, d2] => { results := [.lit (.bool true)], args := [d1, d2] }
  | _ => none }
def evalJoinsRow : OpenClaim := { program := "ytclkpbokngamiaa", sum := "7cf2073043d98806774bb4b0eea913202ef32d4b6070007ce77dc10a80df1cae", func := "counterfoil/counterfoillaw15.EvalJoins", spec := "evalJoins", inPlace := ["internal/bytealg.abigen_runtime_cmpstring", "math/bits.Add64"], unfollowed := true, recurses := true, apart := false }
def EvalJoinsSaid : Prop := evalJoinsRow.holds Try.pinned (OpenSpec.ofChange evalJoinsSpec)

/-- ITS FALSE NEIGHBOUR: 'it returns false'. Refute it at one input. -/
def evalJoinsWrong : ChangeSpec := { name := "evalJoins", fn := fun _ => fun
  | [d1, d2] => { results := [.lit (.bool false)], args := [d1, d2] }
  | _ => none }
def EvalJoinsWrongFalsely : Prop := evalJoinsRow.holds Try.pinned (OpenSpec.ofChange evalJoinsWrong)

/-- 'counterfoillaw15.EvalKnown': WHATEVER THE INPUT: true; the input reads as it did. -/
def evalKnownSpec : ChangeSpec := { name := "evalKnown", fn := fun _ => fun
  | [] => { results := [.lit (.bool true)], args := [] }
  | _ => none }
def evalKnownRow : OpenClaim := { program := "ytclkpbokngamiaa", sum := "7cf2073043d98806774bb4b0eea913202ef32d4b6070007ce77dc10a80df1cae", func := "counterfoil/counterfoillaw15.EvalKnown", spec := "evalKnown", inPlace := ["internal/bytealg.abigen_runtime_cmpstring", "math/bits.Add64"], unfollowed := true, recurses := true, apart := false }
def EvalKnownSaid : Prop := evalKnownRow.holds Try.pinned (OpenSpec.ofChange evalKnownSpec)

/-- ITS FALSE NEIGHBOUR: 'it returns false'. Refute it at one input. -/
def evalKnownWrong : ChangeSpec := { name := "evalKnown", fn := fun _ => fun
  | [] => { results := [.lit (.bool false)], args := [] }
  | _ => none }
def EvalKnownWrongFalsely : Prop := evalKnownRow.holds Try.pinned (OpenSpec.ofChange evalKnownWrong)

/- THE SECOND FORM. 'bulk': how many values and letters a reading holds, each counted each time it is reached (what is shared counts as often as it is met; a slice's spare places count too). A statement '..UptoSaid' is the law's where the arguments, and the package variables that the reading takes, are together of bulk at most 1048576: NARROWER than '..Said'. Prove '..Said' where nothing that the law and all that it calls make is longer than what came in: it says more and counts as full. Else prove '..UptoSaid'. A law counts once. -/
mutual
def uptoBulk {H : Type} : DataW H → Nat
  | .lit (.string bytes) => bytes.length + 1
  | .lit _ => 1
  | .nil => 1
  | .ptr d => uptoBulk d + 1
  | .slice elems spare => uptoBulkAll elems + uptoBulkAll spare + 1
  | .agg parts => uptoBulkAll parts + 1
  | .iface _ d => uptoBulk d + 1
  | .map entries => uptoBulkEntries entries + 1
  | .held _ => 1
def uptoBulkAll {H : Type} : List (DataW H) → Nat
  | [] => 0
  | d :: r => uptoBulk d + uptoBulkAll r
def uptoBulkEntries {H : Type} : List (Lit × DataW H) → Nat
  | [] => 0
  | x :: r => uptoBulkEntry x + uptoBulkEntries r
def uptoBulkEntry {H : Type} : Lit × DataW H → Nat
  | (.string bytes, d) => bytes.length + uptoBulk d + 1
  | (_, d) => uptoBulk d + 1
 end
def uptoSmall : (H : Type) → List (DataW H) → Bool := fun _ ds => decide (uptoBulkAll ds ≤ 1048576)
def OpenSpec.upto (s : _root_.Go.ChangeSpec) : _root_.Go.OpenSpec := { _root_.Go.OpenSpec.ofChange s with cond := some uptoSmall }

/-- 'counterfoillaw15.EvalLogic', WHERE WHAT IT READS IS OF BULK AT MOST 1048576: true; the input reads as it did. -/
def evalLogicUptoRow : OpenClaim := { program := "ytclkpbokngamiaa", sum := "7cf2073043d98806774bb4b0eea913202ef32d4b6070007ce77dc10a80df1cae", func := "counterfoil/counterfoillaw15.EvalLogic", spec := "evalLogic", inPlace := ["internal/bytealg.abigen_runtime_cmpstring", "math/bits.Add64"], unfollowed := true, recurses := true, apart := false, narrowed := true }
def EvalLogicUptoSaid : Prop := evalLogicUptoRow.holds Try.pinned (OpenSpec.upto evalLogicSpec)

/-- 'counterfoillaw15.EvalJoins', WHERE WHAT IT READS IS OF BULK AT MOST 1048576: true; the input reads as it did. -/
def evalJoinsUptoRow : OpenClaim := { program := "ytclkpbokngamiaa", sum := "7cf2073043d98806774bb4b0eea913202ef32d4b6070007ce77dc10a80df1cae", func := "counterfoil/counterfoillaw15.EvalJoins", spec := "evalJoins", inPlace := ["internal/bytealg.abigen_runtime_cmpstring", "math/bits.Add64"], unfollowed := true, recurses := true, apart := false, narrowed := true }
def EvalJoinsUptoSaid : Prop := evalJoinsUptoRow.holds Try.pinned (OpenSpec.upto evalJoinsSpec)

/-- 'counterfoillaw15.EvalKnown', WHERE WHAT IT READS IS OF BULK AT MOST 1048576: true; the input reads as it did. -/
def evalKnownUptoRow : OpenClaim := { program := "ytclkpbokngamiaa", sum := "7cf2073043d98806774bb4b0eea913202ef32d4b6070007ce77dc10a80df1cae", func := "counterfoil/counterfoillaw15.EvalKnown", spec := "evalKnown", inPlace := ["internal/bytealg.abigen_runtime_cmpstring", "math/bits.Add64"], unfollowed := true, recurses := true, apart := false, narrowed := true }
def EvalKnownUptoSaid : Prop := evalKnownUptoRow.holds Try.pinned (OpenSpec.upto evalKnownSpec)

end Rows
end Go.Proofs.Ytclkpbokngamiaa
