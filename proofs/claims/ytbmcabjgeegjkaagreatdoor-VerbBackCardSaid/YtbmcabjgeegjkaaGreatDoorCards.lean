/-
  DERIVED. GIVEN WITH THE SEED: THE CARDS: each row of YtbmcabjgeegjkaaGreatDoorRows.lean that lists a variable, with what it lists TIED to the program's text (the seventh form; the later family's looks); each row that meets fmt, with fmt's text TOLD by the authors' own Lean function (tested against real Go, not proved from fmt's source: count such statements apart). THE CARD IS WHAT COUNTS. Prove the row's statement (the work); the ties are given (YtbmcabjgeegjkaaGreatDoorTie.lean); close each card by the builder's one call (the guide's Derived/Test/ToyasCard.lean, 'card_holds'). Laid BY PROGRAM, IN A SANDBOX (cutbox-door.mjs). By AI agents, Wed Nov 11 2026. No macro, syntax, notation, axiom, sorry.
-/
import Derived.Test.YtbmcabjgeegjkaaGreatDoorRows
import GoSem.ClaimSeven
namespace Go.Proofs.YtbmcabjgeegjkaaGreatDoor
namespace Rows

/-- THE TIED CARD OF 'pouchlaw5.VerbParses'. -/
def verbParsesCard : Claim7 := { stood := { row := verbParsesRow, standIns := [], harness := (true, "00b392c03fdf41f59a97fb459ee7cd0eba8b731531af83117a9e2e896f72a00d"), looks := true }, kinds := [], alts := [], laidByText := true, laidKinds := [.data, .data, .data, .data, .sentinel, .sentinel, .pinned], laidTests := true, laidLooks := .later }
def VerbParsesCardSaid : Prop := Claim7.holds Tryz.pinned (.plain (OpenSpec.ofChange verbParsesSpec)) verbParsesCard

/-- THE TIED CARD OF 'pouchlaw5.VerbBack'. -/
def verbBackCard : Claim7 := { stood := { row := verbBackRow, standIns := [], harness := (true, "00b392c03fdf41f59a97fb459ee7cd0eba8b731531af83117a9e2e896f72a00d"), looks := true }, kinds := [], alts := [], laidByText := true, laidKinds := [.data, .data, .data, .data, .sentinel, .sentinel, .pinned], laidTests := true, laidLooks := .later }
def VerbBackCardSaid : Prop := Claim7.holds Tryz.pinned (.plain (OpenSpec.ofChange verbBackSpec)) verbBackCard

/-- THE TIED CARD OF 'pouchlaw5.VerbTexts'. -/
def verbTextsCard : Claim7 := { stood := { row := verbTextsRow, standIns := [], harness := (true, "00b392c03fdf41f59a97fb459ee7cd0eba8b731531af83117a9e2e896f72a00d"), looks := true }, kinds := [], alts := [], laidByText := true, laidKinds := [.data, .data, .data, .data, .sentinel, .sentinel, .pinned], laidTests := true, laidLooks := .later }
def VerbTextsCardSaid : Prop := Claim7.holds Tryz.pinned (.plain (OpenSpec.ofChange verbTextsSpec)) verbTextsCard

/-- THE TIED CARD OF 'pouchlaw5.VerbHelos'. -/
def verbHelosCard : Claim7 := { stood := { row := verbHelosRow, standIns := [], harness := (true, "00b392c03fdf41f59a97fb459ee7cd0eba8b731531af83117a9e2e896f72a00d"), looks := true }, kinds := [], alts := [], laidByText := true, laidKinds := [.data, .data, .data, .data, .sentinel, .sentinel, .pinned], laidTests := true, laidLooks := .later }
def VerbHelosCardSaid : Prop := Claim7.holds Tryz.pinned (.plain (OpenSpec.ofChange verbHelosSpec)) verbHelosCard

/-- THE TIED CARD OF 'pouchlaw5.VerbEhlos'. -/
def verbEhlosCard : Claim7 := { stood := { row := verbEhlosRow, standIns := [], harness := (true, "00b392c03fdf41f59a97fb459ee7cd0eba8b731531af83117a9e2e896f72a00d"), looks := true }, kinds := [], alts := [], laidByText := true, laidKinds := [.data, .data, .data, .data, .sentinel, .sentinel, .pinned], laidTests := true, laidLooks := .later }
def VerbEhlosCardSaid : Prop := Claim7.holds Tryz.pinned (.plain (OpenSpec.ofChange verbEhlosSpec)) verbEhlosCard

/-- THE TIED CARD OF 'pouchlaw5.VerbMails'. -/
def verbMailsCard : Claim7 := { stood := { row := verbMailsRow, standIns := [], harness := (true, "00b392c03fdf41f59a97fb459ee7cd0eba8b731531af83117a9e2e896f72a00d"), looks := true }, kinds := [], alts := [], laidByText := true, laidKinds := [.data, .data, .data, .data, .sentinel, .sentinel, .pinned], laidTests := true, laidLooks := .later }
def VerbMailsCardSaid : Prop := Claim7.holds Tryz.pinned (.plain (OpenSpec.ofChange verbMailsSpec)) verbMailsCard

/-- THE TIED CARD OF 'pouchlaw5.VerbRcpts'. -/
def verbRcptsCard : Claim7 := { stood := { row := verbRcptsRow, standIns := [], harness := (true, "00b392c03fdf41f59a97fb459ee7cd0eba8b731531af83117a9e2e896f72a00d"), looks := true }, kinds := [], alts := [], laidByText := true, laidKinds := [.data, .data, .data, .data, .sentinel, .sentinel, .pinned], laidTests := true, laidLooks := .later }
def VerbRcptsCardSaid : Prop := Claim7.holds Tryz.pinned (.plain (OpenSpec.ofChange verbRcptsSpec)) verbRcptsCard

/-- THE TIED CARD OF 'pouchlaw5.VerbDatas'. -/
def verbDatasCard : Claim7 := { stood := { row := verbDatasRow, standIns := [], harness := (true, "00b392c03fdf41f59a97fb459ee7cd0eba8b731531af83117a9e2e896f72a00d"), looks := true }, kinds := [], alts := [], laidByText := true, laidKinds := [.data, .data, .data, .data, .sentinel, .sentinel, .pinned], laidTests := true, laidLooks := .later }
def VerbDatasCardSaid : Prop := Claim7.holds Tryz.pinned (.plain (OpenSpec.ofChange verbDatasSpec)) verbDatasCard

/-- THE TIED CARD OF 'pouchlaw5.VerbRsets'. -/
def verbRsetsCard : Claim7 := { stood := { row := verbRsetsRow, standIns := [], harness := (true, "00b392c03fdf41f59a97fb459ee7cd0eba8b731531af83117a9e2e896f72a00d"), looks := true }, kinds := [], alts := [], laidByText := true, laidKinds := [.data, .data, .data, .data, .sentinel, .sentinel, .pinned], laidTests := true, laidLooks := .later }
def VerbRsetsCardSaid : Prop := Claim7.holds Tryz.pinned (.plain (OpenSpec.ofChange verbRsetsSpec)) verbRsetsCard

/-- THE TIED CARD OF 'pouchlaw5.VerbNoops'. -/
def verbNoopsCard : Claim7 := { stood := { row := verbNoopsRow, standIns := [], harness := (true, "00b392c03fdf41f59a97fb459ee7cd0eba8b731531af83117a9e2e896f72a00d"), looks := true }, kinds := [], alts := [], laidByText := true, laidKinds := [.data, .data, .data, .data, .sentinel, .sentinel, .pinned], laidTests := true, laidLooks := .later }
def VerbNoopsCardSaid : Prop := Claim7.holds Tryz.pinned (.plain (OpenSpec.ofChange verbNoopsSpec)) verbNoopsCard

/-- THE TIED CARD OF 'pouchlaw5.VerbQuits'. -/
def verbQuitsCard : Claim7 := { stood := { row := verbQuitsRow, standIns := [], harness := (true, "00b392c03fdf41f59a97fb459ee7cd0eba8b731531af83117a9e2e896f72a00d"), looks := true }, kinds := [], alts := [], laidByText := true, laidKinds := [.data, .data, .data, .data, .sentinel, .sentinel, .pinned], laidTests := true, laidLooks := .later }
def VerbQuitsCardSaid : Prop := Claim7.holds Tryz.pinned (.plain (OpenSpec.ofChange verbQuitsSpec)) verbQuitsCard

/-- THE TIED CARD OF 'pouchlaw5.VerbVrfys'. -/
def verbVrfysCard : Claim7 := { stood := { row := verbVrfysRow, standIns := [], harness := (true, "00b392c03fdf41f59a97fb459ee7cd0eba8b731531af83117a9e2e896f72a00d"), looks := true }, kinds := [], alts := [], laidByText := true, laidKinds := [.data, .data, .data, .data, .sentinel, .sentinel, .pinned], laidTests := true, laidLooks := .later }
def VerbVrfysCardSaid : Prop := Claim7.holds Tryz.pinned (.plain (OpenSpec.ofChange verbVrfysSpec)) verbVrfysCard

/-- THE SECOND FORM's CARD OF 'pouchlaw5.VerbParses'. -/
def verbParsesUptoCard : Claim7 := { stood := { row := verbParsesUptoRow, standIns := [], harness := (true, "00b392c03fdf41f59a97fb459ee7cd0eba8b731531af83117a9e2e896f72a00d"), looks := true }, kinds := [], alts := [], laidByText := true, laidKinds := [.data, .data, .data, .data, .sentinel, .sentinel, .pinned], laidTests := true, laidLooks := .later }
def VerbParsesUptoCardSaid : Prop := Claim7.holds Tryz.pinned (.plain (OpenSpec.upto verbParsesSpec)) verbParsesUptoCard

/-- THE SECOND FORM's CARD OF 'pouchlaw5.VerbBack'. -/
def verbBackUptoCard : Claim7 := { stood := { row := verbBackUptoRow, standIns := [], harness := (true, "00b392c03fdf41f59a97fb459ee7cd0eba8b731531af83117a9e2e896f72a00d"), looks := true }, kinds := [], alts := [], laidByText := true, laidKinds := [.data, .data, .data, .data, .sentinel, .sentinel, .pinned], laidTests := true, laidLooks := .later }
def VerbBackUptoCardSaid : Prop := Claim7.holds Tryz.pinned (.plain (OpenSpec.upto verbBackSpec)) verbBackUptoCard

/-- THE SECOND FORM's CARD OF 'pouchlaw5.VerbTexts'. -/
def verbTextsUptoCard : Claim7 := { stood := { row := verbTextsUptoRow, standIns := [], harness := (true, "00b392c03fdf41f59a97fb459ee7cd0eba8b731531af83117a9e2e896f72a00d"), looks := true }, kinds := [], alts := [], laidByText := true, laidKinds := [.data, .data, .data, .data, .sentinel, .sentinel, .pinned], laidTests := true, laidLooks := .later }
def VerbTextsUptoCardSaid : Prop := Claim7.holds Tryz.pinned (.plain (OpenSpec.upto verbTextsSpec)) verbTextsUptoCard

/-- THE SECOND FORM's CARD OF 'pouchlaw5.VerbHelos'. -/
def verbHelosUptoCard : Claim7 := { stood := { row := verbHelosUptoRow, standIns := [], harness := (true, "00b392c03fdf41f59a97fb459ee7cd0eba8b731531af83117a9e2e896f72a00d"), looks := true }, kinds := [], alts := [], laidByText := true, laidKinds := [.data, .data, .data, .data, .sentinel, .sentinel, .pinned], laidTests := true, laidLooks := .later }
def VerbHelosUptoCardSaid : Prop := Claim7.holds Tryz.pinned (.plain (OpenSpec.upto verbHelosSpec)) verbHelosUptoCard

/-- THE SECOND FORM's CARD OF 'pouchlaw5.VerbEhlos'. -/
def verbEhlosUptoCard : Claim7 := { stood := { row := verbEhlosUptoRow, standIns := [], harness := (true, "00b392c03fdf41f59a97fb459ee7cd0eba8b731531af83117a9e2e896f72a00d"), looks := true }, kinds := [], alts := [], laidByText := true, laidKinds := [.data, .data, .data, .data, .sentinel, .sentinel, .pinned], laidTests := true, laidLooks := .later }
def VerbEhlosUptoCardSaid : Prop := Claim7.holds Tryz.pinned (.plain (OpenSpec.upto verbEhlosSpec)) verbEhlosUptoCard

/-- THE SECOND FORM's CARD OF 'pouchlaw5.VerbMails'. -/
def verbMailsUptoCard : Claim7 := { stood := { row := verbMailsUptoRow, standIns := [], harness := (true, "00b392c03fdf41f59a97fb459ee7cd0eba8b731531af83117a9e2e896f72a00d"), looks := true }, kinds := [], alts := [], laidByText := true, laidKinds := [.data, .data, .data, .data, .sentinel, .sentinel, .pinned], laidTests := true, laidLooks := .later }
def VerbMailsUptoCardSaid : Prop := Claim7.holds Tryz.pinned (.plain (OpenSpec.upto verbMailsSpec)) verbMailsUptoCard

/-- THE SECOND FORM's CARD OF 'pouchlaw5.VerbRcpts'. -/
def verbRcptsUptoCard : Claim7 := { stood := { row := verbRcptsUptoRow, standIns := [], harness := (true, "00b392c03fdf41f59a97fb459ee7cd0eba8b731531af83117a9e2e896f72a00d"), looks := true }, kinds := [], alts := [], laidByText := true, laidKinds := [.data, .data, .data, .data, .sentinel, .sentinel, .pinned], laidTests := true, laidLooks := .later }
def VerbRcptsUptoCardSaid : Prop := Claim7.holds Tryz.pinned (.plain (OpenSpec.upto verbRcptsSpec)) verbRcptsUptoCard

/-- THE SECOND FORM's CARD OF 'pouchlaw5.VerbDatas'. -/
def verbDatasUptoCard : Claim7 := { stood := { row := verbDatasUptoRow, standIns := [], harness := (true, "00b392c03fdf41f59a97fb459ee7cd0eba8b731531af83117a9e2e896f72a00d"), looks := true }, kinds := [], alts := [], laidByText := true, laidKinds := [.data, .data, .data, .data, .sentinel, .sentinel, .pinned], laidTests := true, laidLooks := .later }
def VerbDatasUptoCardSaid : Prop := Claim7.holds Tryz.pinned (.plain (OpenSpec.upto verbDatasSpec)) verbDatasUptoCard

/-- THE SECOND FORM's CARD OF 'pouchlaw5.VerbRsets'. -/
def verbRsetsUptoCard : Claim7 := { stood := { row := verbRsetsUptoRow, standIns := [], harness := (true, "00b392c03fdf41f59a97fb459ee7cd0eba8b731531af83117a9e2e896f72a00d"), looks := true }, kinds := [], alts := [], laidByText := true, laidKinds := [.data, .data, .data, .data, .sentinel, .sentinel, .pinned], laidTests := true, laidLooks := .later }
def VerbRsetsUptoCardSaid : Prop := Claim7.holds Tryz.pinned (.plain (OpenSpec.upto verbRsetsSpec)) verbRsetsUptoCard

/-- THE SECOND FORM's CARD OF 'pouchlaw5.VerbNoops'. -/
def verbNoopsUptoCard : Claim7 := { stood := { row := verbNoopsUptoRow, standIns := [], harness := (true, "00b392c03fdf41f59a97fb459ee7cd0eba8b731531af83117a9e2e896f72a00d"), looks := true }, kinds := [], alts := [], laidByText := true, laidKinds := [.data, .data, .data, .data, .sentinel, .sentinel, .pinned], laidTests := true, laidLooks := .later }
def VerbNoopsUptoCardSaid : Prop := Claim7.holds Tryz.pinned (.plain (OpenSpec.upto verbNoopsSpec)) verbNoopsUptoCard

/-- THE SECOND FORM's CARD OF 'pouchlaw5.VerbQuits'. -/
def verbQuitsUptoCard : Claim7 := { stood := { row := verbQuitsUptoRow, standIns := [], harness := (true, "00b392c03fdf41f59a97fb459ee7cd0eba8b731531af83117a9e2e896f72a00d"), looks := true }, kinds := [], alts := [], laidByText := true, laidKinds := [.data, .data, .data, .data, .sentinel, .sentinel, .pinned], laidTests := true, laidLooks := .later }
def VerbQuitsUptoCardSaid : Prop := Claim7.holds Tryz.pinned (.plain (OpenSpec.upto verbQuitsSpec)) verbQuitsUptoCard

/-- THE SECOND FORM's CARD OF 'pouchlaw5.VerbVrfys'. -/
def verbVrfysUptoCard : Claim7 := { stood := { row := verbVrfysUptoRow, standIns := [], harness := (true, "00b392c03fdf41f59a97fb459ee7cd0eba8b731531af83117a9e2e896f72a00d"), looks := true }, kinds := [], alts := [], laidByText := true, laidKinds := [.data, .data, .data, .data, .sentinel, .sentinel, .pinned], laidTests := true, laidLooks := .later }
def VerbVrfysUptoCardSaid : Prop := Claim7.holds Tryz.pinned (.plain (OpenSpec.upto verbVrfysSpec)) verbVrfysUptoCard
end Rows
end Go.Proofs.YtbmcabjgeegjkaaGreatDoor
