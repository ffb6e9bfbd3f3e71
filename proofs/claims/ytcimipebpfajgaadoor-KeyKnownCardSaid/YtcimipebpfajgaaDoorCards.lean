/-
  DERIVED. GIVEN WITH THE SEED: THE CARDS: each row of YtcimipebpfajgaaDoorRows.lean that lists a variable, with what it lists TIED to the program's text (the seventh form; the later family's looks); each row that meets fmt, with fmt's text TOLD by the authors' own Lean function (tested against real Go, not proved from fmt's source: count such statements apart). THE CARD IS WHAT COUNTS. Prove the row's statement (the work); the ties are given (YtcimipebpfajgaaDoorTie.lean); close each card by the builder's one call (the guide's Derived/Test/ToyasCard.lean, 'card_holds'). Laid BY PROGRAM, IN A SANDBOX (cutbox-door.mjs). By AI agents, Wed Nov 11 2026. No macro, syntax, notation, axiom, sorry.
-/
import Derived.Test.YtcimipebpfajgaaDoorRows
import GoSem.ClaimSeven
namespace Go.Proofs.YtcimipebpfajgaaDoor
namespace Rows

/-- THE TIED CARD OF 'counterfoillaw08.KeyKnown'. -/
def keyKnownCard : Claim7 := { stood := { row := keyKnownRow, standIns := [], harness := (true, "8f4162f3906d0e67fc9971c049c0f3ef0f8604932e175dfc05a3bc2ba29fe5b6"), looks := false }, kinds := [], alts := [], laidByText := true, laidKinds := [.data, .pinned], laidTests := true, laidLooks := .later }
def KeyKnownCardSaid : Prop := Claim7.holds Tryd.pinned (.plain (OpenSpec.ofChange keyKnownSpec)) keyKnownCard

/-- THE SECOND FORM's CARD OF 'counterfoillaw08.KeyKnown'. -/
def keyKnownUptoCard : Claim7 := { stood := { row := keyKnownUptoRow, standIns := [], harness := (true, "8f4162f3906d0e67fc9971c049c0f3ef0f8604932e175dfc05a3bc2ba29fe5b6"), looks := false }, kinds := [], alts := [], laidByText := true, laidKinds := [.data, .pinned], laidTests := true, laidLooks := .later }
def KeyKnownUptoCardSaid : Prop := Claim7.holds Tryd.pinned (.plain (OpenSpec.upto keyKnownSpec)) keyKnownUptoCard
end Rows
end Go.Proofs.YtcimipebpfajgaaDoor
