/-
  DERIVED. GIVEN WITH THE SEED: THE CARDS: each row of YtddefjokgaajfaaGreatDoorRows.lean that lists a variable, with what it lists TIED to the program's text (the seventh form; the later family's looks); each row that meets fmt, with fmt's text TOLD by the authors' own Lean function (tested against real Go, not proved from fmt's source: count such statements apart). THE CARD IS WHAT COUNTS. Prove the row's statement (the work); the ties are given (YtddefjokgaajfaaGreatDoorTie.lean); close each card by the builder's one call (the guide's Derived/Test/ToyasCard.lean, 'card_holds'). Laid BY PROGRAM, IN A SANDBOX (cutbox-door.mjs). By AI agents, Wed Nov 11 2026. No macro, syntax, notation, axiom, sorry.
-/
import Derived.Test.YtddefjokgaajfaaGreatDoorRows
import GoSem.ClaimSeven
namespace Go.Proofs.YtddefjokgaajfaaGreatDoor
namespace Rows

/-- THE TIED CARD OF 'pouchlaw27.PeerExact'. -/
def peerExactCard : Claim7 := { stood := { row := peerExactRow, standIns := [], harness := (true, "5e9703288dfe745878485f7b0671c324e8ab3e93642c6a460614e4f53c85383b"), looks := true }, kinds := [], alts := [], laidByText := true, laidKinds := [.data, .data, .data, .data, .sentinel, .sentinel, .pinned], laidTests := true, laidLooks := .later }
def PeerExactCardSaid : Prop := Claim7.holds Tryz.pinned (.plain (OpenSpec.ofChange peerExactSpec)) peerExactCard

/-- THE TIED CARD OF 'pouchlaw27.PeerTakes'. -/
def peerTakesCard : Claim7 := { stood := { row := peerTakesRow, standIns := [], harness := (true, "5e9703288dfe745878485f7b0671c324e8ab3e93642c6a460614e4f53c85383b"), looks := true }, kinds := [], alts := [], laidByText := true, laidKinds := [.data, .data, .data, .data, .sentinel, .sentinel, .pinned], laidTests := true, laidLooks := .later }
def PeerTakesCardSaid : Prop := Claim7.holds Tryz.pinned (.plain (OpenSpec.ofChange peerTakesSpec)) peerTakesCard

/-- THE TIED CARD OF 'pouchlaw27.PeerParts'. -/
def peerPartsCard : Claim7 := { stood := { row := peerPartsRow, standIns := [], harness := (true, "5e9703288dfe745878485f7b0671c324e8ab3e93642c6a460614e4f53c85383b"), looks := true }, kinds := [], alts := [], laidByText := true, laidKinds := [.data, .data, .data, .data, .sentinel, .sentinel, .pinned], laidTests := true, laidLooks := .later }
def PeerPartsCardSaid : Prop := Claim7.holds Tryz.pinned (.plain (OpenSpec.ofChange peerPartsSpec)) peerPartsCard

/-- THE TIED CARD OF 'pouchlaw22.CallerMany'. -/
def callerManyCard : Claim7 := { stood := { row := callerManyRow, standIns := [], harness := (true, "5e9703288dfe745878485f7b0671c324e8ab3e93642c6a460614e4f53c85383b"), looks := true }, kinds := [], alts := [], laidByText := true, laidKinds := [.data, .data, .data, .data, .sentinel, .sentinel, .pinned], laidTests := true, laidLooks := .later }
def CallerManyCardSaid : Prop := Claim7.holds Tryz.pinned (.plain (OpenSpec.ofChange callerManySpec)) callerManyCard

/-- THE TIED CARD OF 'pouchlaw22.CallerTexts'. -/
def callerTextsCard : Claim7 := { stood := { row := callerTextsRow, standIns := [], harness := (true, "5e9703288dfe745878485f7b0671c324e8ab3e93642c6a460614e4f53c85383b"), looks := true }, kinds := [], alts := [], laidByText := true, laidKinds := [.data, .data, .data, .data, .sentinel, .sentinel, .pinned], laidTests := true, laidLooks := .later }
def CallerTextsCardSaid : Prop := Claim7.holds Tryz.pinned (.plain (OpenSpec.ofChange callerTextsSpec)) callerTextsCard

/-- THE SECOND FORM's CARD OF 'pouchlaw27.PeerExact'. -/
def peerExactUptoCard : Claim7 := { stood := { row := peerExactUptoRow, standIns := [], harness := (true, "5e9703288dfe745878485f7b0671c324e8ab3e93642c6a460614e4f53c85383b"), looks := true }, kinds := [], alts := [], laidByText := true, laidKinds := [.data, .data, .data, .data, .sentinel, .sentinel, .pinned], laidTests := true, laidLooks := .later }
def PeerExactUptoCardSaid : Prop := Claim7.holds Tryz.pinned (.plain (OpenSpec.upto peerExactSpec)) peerExactUptoCard

/-- THE SECOND FORM's CARD OF 'pouchlaw27.PeerTakes'. -/
def peerTakesUptoCard : Claim7 := { stood := { row := peerTakesUptoRow, standIns := [], harness := (true, "5e9703288dfe745878485f7b0671c324e8ab3e93642c6a460614e4f53c85383b"), looks := true }, kinds := [], alts := [], laidByText := true, laidKinds := [.data, .data, .data, .data, .sentinel, .sentinel, .pinned], laidTests := true, laidLooks := .later }
def PeerTakesUptoCardSaid : Prop := Claim7.holds Tryz.pinned (.plain (OpenSpec.upto peerTakesSpec)) peerTakesUptoCard

/-- THE SECOND FORM's CARD OF 'pouchlaw27.PeerParts'. -/
def peerPartsUptoCard : Claim7 := { stood := { row := peerPartsUptoRow, standIns := [], harness := (true, "5e9703288dfe745878485f7b0671c324e8ab3e93642c6a460614e4f53c85383b"), looks := true }, kinds := [], alts := [], laidByText := true, laidKinds := [.data, .data, .data, .data, .sentinel, .sentinel, .pinned], laidTests := true, laidLooks := .later }
def PeerPartsUptoCardSaid : Prop := Claim7.holds Tryz.pinned (.plain (OpenSpec.upto peerPartsSpec)) peerPartsUptoCard

/-- THE SECOND FORM's CARD OF 'pouchlaw22.CallerMany'. -/
def callerManyUptoCard : Claim7 := { stood := { row := callerManyUptoRow, standIns := [], harness := (true, "5e9703288dfe745878485f7b0671c324e8ab3e93642c6a460614e4f53c85383b"), looks := true }, kinds := [], alts := [], laidByText := true, laidKinds := [.data, .data, .data, .data, .sentinel, .sentinel, .pinned], laidTests := true, laidLooks := .later }
def CallerManyUptoCardSaid : Prop := Claim7.holds Tryz.pinned (.plain (OpenSpec.upto callerManySpec)) callerManyUptoCard

/-- THE SECOND FORM's CARD OF 'pouchlaw22.CallerTexts'. -/
def callerTextsUptoCard : Claim7 := { stood := { row := callerTextsUptoRow, standIns := [], harness := (true, "5e9703288dfe745878485f7b0671c324e8ab3e93642c6a460614e4f53c85383b"), looks := true }, kinds := [], alts := [], laidByText := true, laidKinds := [.data, .data, .data, .data, .sentinel, .sentinel, .pinned], laidTests := true, laidLooks := .later }
def CallerTextsUptoCardSaid : Prop := Claim7.holds Tryz.pinned (.plain (OpenSpec.upto callerTextsSpec)) callerTextsUptoCard
end Rows
end Go.Proofs.YtddefjokgaajfaaGreatDoor
