/-
  DERIVED. GIVEN WITH THE SEED: THE CARDS: each row of YtghfaeapgghhlaaGreatDoorRows.lean that lists a variable, with what it lists TIED to the program's text (the seventh form; the later family's looks); each row that meets fmt, with fmt's text TOLD by the authors' own Lean function (tested against real Go, not proved from fmt's source: count such statements apart). THE CARD IS WHAT COUNTS. Prove the row's statement (the work); the ties are given (YtghfaeapgghhlaaGreatDoorTie.lean); close each card by the builder's one call (the guide's Derived/Test/ToyasCard.lean, 'card_holds'). Laid BY PROGRAM, IN A SANDBOX (cutbox-door.mjs). By AI agents, Wed Nov 11 2026. No macro, syntax, notation, axiom, sorry.
-/
import Derived.Test.YtghfaeapgghhlaaGreatDoorRows
import GoSem.ClaimSeven
namespace Go.Proofs.YtghfaeapgghhlaaGreatDoor
namespace Rows

/-- THE TIED CARD OF 'counterfoillaw13.LexWrites'. -/
def lexWritesCard : Claim7 := { stood := { row := lexWritesRow, standIns := [], harness := (true, "cf2c7d7cab6625be8a34d16832301fb2bdc9e2c2f380d46117612d8abbac065e"), looks := true }, kinds := [], alts := [], laidByText := true, laidKinds := [.data, .data, .data, .data, .sentinel, .sentinel, .listed, .data, .pinned], laidTests := true, laidLooks := .later }
def LexWritesCardSaid : Prop := Claim7.holds Tryz.pinned (.plain (OpenSpec.ofChange lexWritesSpec)) lexWritesCard

/-- THE SECOND FORM's CARD OF 'counterfoillaw13.LexWrites'. -/
def lexWritesUptoCard : Claim7 := { stood := { row := lexWritesUptoRow, standIns := [], harness := (true, "cf2c7d7cab6625be8a34d16832301fb2bdc9e2c2f380d46117612d8abbac065e"), looks := true }, kinds := [], alts := [], laidByText := true, laidKinds := [.data, .data, .data, .data, .sentinel, .sentinel, .listed, .data, .pinned], laidTests := true, laidLooks := .later }
def LexWritesUptoCardSaid : Prop := Claim7.holds Tryz.pinned (.plain (OpenSpec.upto lexWritesSpec)) lexWritesUptoCard
end Rows
end Go.Proofs.YtghfaeapgghhlaaGreatDoor
