/-
  DERIVED. GIVEN WITH THE SEED: THE CARDS: each row of YtclkpbokngamiaaDoorRows.lean that lists a variable, with what it lists TIED to the program's text (the seventh form; the later family's looks); each row that meets fmt, with fmt's text TOLD by the authors' own Lean function (tested against real Go, not proved from fmt's source: count such statements apart). THE CARD IS WHAT COUNTS. Prove the row's statement (the work); the ties are given (YtclkpbokngamiaaDoorTie.lean); close each card by the builder's one call (the guide's Derived/Test/ToyasCard.lean, 'card_holds'). Laid BY PROGRAM, IN A SANDBOX (cutbox-door.mjs). By AI agents, Wed Nov 11 2026. No macro, syntax, notation, axiom, sorry.
-/
import Derived.Test.YtclkpbokngamiaaDoorRows
import GoSem.ClaimSeven
namespace Go.Proofs.YtclkpbokngamiaaDoor
namespace Rows

/-- THE TIED CARD OF 'counterfoillaw08.KeyPuts'. -/
def keyPutsCard : Claim7 := { stood := { row := keyPutsRow, standIns := [], harness := (true, "87c978da54aa7d62b9f7dbc4ff716a48af2b5ba8b3bc861d8d5581fb88b01145"), looks := false }, kinds := [], alts := [], laidByText := true, laidKinds := [.data, .pinned], laidTests := true, laidLooks := .later }
def KeyPutsCardSaid : Prop := Claim7.holds Tryd.pinned (.plain (OpenSpec.ofChange keyPutsSpec)) keyPutsCard

/-- THE TIED CARD OF 'counterfoillaw08.KeyOrder'. -/
def keyOrderCard : Claim7 := { stood := { row := keyOrderRow, standIns := [], harness := (true, "87c978da54aa7d62b9f7dbc4ff716a48af2b5ba8b3bc861d8d5581fb88b01145"), looks := false }, kinds := [], alts := [], laidByText := true, laidKinds := [.data, .pinned], laidTests := true, laidLooks := .later }
def KeyOrderCardSaid : Prop := Claim7.holds Tryd.pinned (.plain (OpenSpec.ofChange keyOrderSpec)) keyOrderCard

/-- THE TIED CARD OF 'counterfoillaw08.KeyBegins'. -/
def keyBeginsCard : Claim7 := { stood := { row := keyBeginsRow, standIns := [], harness := (true, "87c978da54aa7d62b9f7dbc4ff716a48af2b5ba8b3bc861d8d5581fb88b01145"), looks := false }, kinds := [], alts := [], laidByText := true, laidKinds := [.data, .pinned], laidTests := true, laidLooks := .later }
def KeyBeginsCardSaid : Prop := Claim7.holds Tryd.pinned (.plain (OpenSpec.ofChange keyBeginsSpec)) keyBeginsCard

/-- THE TIED CARD OF 'counterfoillaw08.KeyTakes'. -/
def keyTakesCard : Claim7 := { stood := { row := keyTakesRow, standIns := [], harness := (true, "87c978da54aa7d62b9f7dbc4ff716a48af2b5ba8b3bc861d8d5581fb88b01145"), looks := false }, kinds := [], alts := [], laidByText := true, laidKinds := [.data, .pinned], laidTests := true, laidLooks := .later }
def KeyTakesCardSaid : Prop := Claim7.holds Tryd.pinned (.plain (OpenSpec.ofChange keyTakesSpec)) keyTakesCard

/-- THE TIED CARD OF 'counterfoillaw08.KeyBack'. -/
def keyBackCard : Claim7 := { stood := { row := keyBackRow, standIns := [], harness := (true, "87c978da54aa7d62b9f7dbc4ff716a48af2b5ba8b3bc861d8d5581fb88b01145"), looks := false }, kinds := [], alts := [], laidByText := true, laidKinds := [.data, .pinned], laidTests := true, laidLooks := .later }
def KeyBackCardSaid : Prop := Claim7.holds Tryd.pinned (.plain (OpenSpec.ofChange keyBackSpec)) keyBackCard

/-- THE TIED CARD OF 'counterfoillaw08.KeyNext'. -/
def keyNextCard : Claim7 := { stood := { row := keyNextRow, standIns := [], harness := (true, "87c978da54aa7d62b9f7dbc4ff716a48af2b5ba8b3bc861d8d5581fb88b01145"), looks := false }, kinds := [], alts := [], laidByText := true, laidKinds := [.data, .pinned], laidTests := true, laidLooks := .later }
def KeyNextCardSaid : Prop := Claim7.holds Tryd.pinned (.plain (OpenSpec.ofChange keyNextSpec)) keyNextCard

/-- THE TIED CARD OF 'counterfoillaw08.KeyKnown'. -/
def keyKnownCard : Claim7 := { stood := { row := keyKnownRow, standIns := [], harness := (true, "87c978da54aa7d62b9f7dbc4ff716a48af2b5ba8b3bc861d8d5581fb88b01145"), looks := false }, kinds := [], alts := [], laidByText := true, laidKinds := [.data, .pinned], laidTests := true, laidLooks := .later }
def KeyKnownCardSaid : Prop := Claim7.holds Tryd.pinned (.plain (OpenSpec.ofChange keyKnownSpec)) keyKnownCard

/-- THE SECOND FORM's CARD OF 'counterfoillaw08.KeyPuts'. -/
def keyPutsUptoCard : Claim7 := { stood := { row := keyPutsUptoRow, standIns := [], harness := (true, "87c978da54aa7d62b9f7dbc4ff716a48af2b5ba8b3bc861d8d5581fb88b01145"), looks := false }, kinds := [], alts := [], laidByText := true, laidKinds := [.data, .pinned], laidTests := true, laidLooks := .later }
def KeyPutsUptoCardSaid : Prop := Claim7.holds Tryd.pinned (.plain (OpenSpec.upto keyPutsSpec)) keyPutsUptoCard

/-- THE SECOND FORM's CARD OF 'counterfoillaw08.KeyOrder'. -/
def keyOrderUptoCard : Claim7 := { stood := { row := keyOrderUptoRow, standIns := [], harness := (true, "87c978da54aa7d62b9f7dbc4ff716a48af2b5ba8b3bc861d8d5581fb88b01145"), looks := false }, kinds := [], alts := [], laidByText := true, laidKinds := [.data, .pinned], laidTests := true, laidLooks := .later }
def KeyOrderUptoCardSaid : Prop := Claim7.holds Tryd.pinned (.plain (OpenSpec.upto keyOrderSpec)) keyOrderUptoCard

/-- THE SECOND FORM's CARD OF 'counterfoillaw08.KeyBegins'. -/
def keyBeginsUptoCard : Claim7 := { stood := { row := keyBeginsUptoRow, standIns := [], harness := (true, "87c978da54aa7d62b9f7dbc4ff716a48af2b5ba8b3bc861d8d5581fb88b01145"), looks := false }, kinds := [], alts := [], laidByText := true, laidKinds := [.data, .pinned], laidTests := true, laidLooks := .later }
def KeyBeginsUptoCardSaid : Prop := Claim7.holds Tryd.pinned (.plain (OpenSpec.upto keyBeginsSpec)) keyBeginsUptoCard

/-- THE SECOND FORM's CARD OF 'counterfoillaw08.KeyTakes'. -/
def keyTakesUptoCard : Claim7 := { stood := { row := keyTakesUptoRow, standIns := [], harness := (true, "87c978da54aa7d62b9f7dbc4ff716a48af2b5ba8b3bc861d8d5581fb88b01145"), looks := false }, kinds := [], alts := [], laidByText := true, laidKinds := [.data, .pinned], laidTests := true, laidLooks := .later }
def KeyTakesUptoCardSaid : Prop := Claim7.holds Tryd.pinned (.plain (OpenSpec.upto keyTakesSpec)) keyTakesUptoCard

/-- THE SECOND FORM's CARD OF 'counterfoillaw08.KeyBack'. -/
def keyBackUptoCard : Claim7 := { stood := { row := keyBackUptoRow, standIns := [], harness := (true, "87c978da54aa7d62b9f7dbc4ff716a48af2b5ba8b3bc861d8d5581fb88b01145"), looks := false }, kinds := [], alts := [], laidByText := true, laidKinds := [.data, .pinned], laidTests := true, laidLooks := .later }
def KeyBackUptoCardSaid : Prop := Claim7.holds Tryd.pinned (.plain (OpenSpec.upto keyBackSpec)) keyBackUptoCard

/-- THE SECOND FORM's CARD OF 'counterfoillaw08.KeyNext'. -/
def keyNextUptoCard : Claim7 := { stood := { row := keyNextUptoRow, standIns := [], harness := (true, "87c978da54aa7d62b9f7dbc4ff716a48af2b5ba8b3bc861d8d5581fb88b01145"), looks := false }, kinds := [], alts := [], laidByText := true, laidKinds := [.data, .pinned], laidTests := true, laidLooks := .later }
def KeyNextUptoCardSaid : Prop := Claim7.holds Tryd.pinned (.plain (OpenSpec.upto keyNextSpec)) keyNextUptoCard

/-- THE SECOND FORM's CARD OF 'counterfoillaw08.KeyKnown'. -/
def keyKnownUptoCard : Claim7 := { stood := { row := keyKnownUptoRow, standIns := [], harness := (true, "87c978da54aa7d62b9f7dbc4ff716a48af2b5ba8b3bc861d8d5581fb88b01145"), looks := false }, kinds := [], alts := [], laidByText := true, laidKinds := [.data, .pinned], laidTests := true, laidLooks := .later }
def KeyKnownUptoCardSaid : Prop := Claim7.holds Tryd.pinned (.plain (OpenSpec.upto keyKnownSpec)) keyKnownUptoCard
end Rows
end Go.Proofs.YtclkpbokngamiaaDoor
