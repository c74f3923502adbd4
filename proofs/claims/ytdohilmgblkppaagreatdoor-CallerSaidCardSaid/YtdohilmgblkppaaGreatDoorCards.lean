/-
  DERIVED. GIVEN WITH THE SEED: THE CARDS: each row of YtdohilmgblkppaaGreatDoorRows.lean that lists a variable, with what it lists TIED to the program's text (the seventh form; the later family's looks); each row that meets fmt, with fmt's text TOLD by the authors' own Lean function (tested against real Go, not proved from fmt's source: count such statements apart). THE CARD IS WHAT COUNTS. Prove the row's statement (the work); the ties are given (YtdohilmgblkppaaGreatDoorTie.lean); close each card by the builder's one call (the guide's Derived/Test/ToyasCard.lean, 'card_holds'). Laid BY PROGRAM, IN A SANDBOX (cutbox-door.mjs). By AI agents, Wed Nov 11 2026. No macro, syntax, notation, axiom, sorry.
-/
import Derived.Test.YtdohilmgblkppaaGreatDoorRows
import GoSem.ClaimSeven
namespace Go.Proofs.YtdohilmgblkppaaGreatDoor
namespace Rows

/-- THE TIED CARD OF 'pouchlaw22.CallerWrongs'. -/
def callerWrongsCard : Claim7 := { stood := { row := callerWrongsRow, standIns := [], harness := (true, "ac6dd66abe47d9f5a5254c5a667d51af700fbd6ffa1340c8c1ba259e5f197c99"), looks := true }, kinds := [], alts := [], laidByText := true, laidKinds := [.data, .data, .data, .data, .sentinel, .sentinel, .pinned], laidTests := true, laidLooks := .later }
def CallerWrongsCardSaid : Prop := Claim7.holds Tryz.pinned (.plain (OpenSpec.ofChange callerWrongsSpec)) callerWrongsCard

/-- THE TIED CARD OF 'pouchlaw22.CallerLines'. -/
def callerLinesCard : Claim7 := { stood := { row := callerLinesRow, standIns := [], harness := (true, "ac6dd66abe47d9f5a5254c5a667d51af700fbd6ffa1340c8c1ba259e5f197c99"), looks := true }, kinds := [], alts := [], laidByText := true, laidKinds := [.data, .data, .data, .data, .sentinel, .sentinel, .pinned], laidTests := true, laidLooks := .later }
def CallerLinesCardSaid : Prop := Claim7.holds Tryz.pinned (.plain (OpenSpec.ofChange callerLinesSpec)) callerLinesCard

/-- THE TIED CARD OF 'pouchlaw22.CallerYes'. -/
def callerYesCard : Claim7 := { stood := { row := callerYesRow, standIns := [], harness := (true, "ac6dd66abe47d9f5a5254c5a667d51af700fbd6ffa1340c8c1ba259e5f197c99"), looks := true }, kinds := [], alts := [], laidByText := true, laidKinds := [.data, .data, .data, .data, .sentinel, .sentinel, .pinned], laidTests := true, laidLooks := .later }
def CallerYesCardSaid : Prop := Claim7.holds Tryz.pinned (.plain (OpenSpec.ofChange callerYesSpec)) callerYesCard

/-- THE TIED CARD OF 'pouchlaw22.CallerResets'. -/
def callerResetsCard : Claim7 := { stood := { row := callerResetsRow, standIns := [], harness := (true, "ac6dd66abe47d9f5a5254c5a667d51af700fbd6ffa1340c8c1ba259e5f197c99"), looks := true }, kinds := [], alts := [], laidByText := true, laidKinds := [.data, .data, .data, .data, .sentinel, .sentinel, .pinned], laidTests := true, laidLooks := .later }
def CallerResetsCardSaid : Prop := Claim7.holds Tryz.pinned (.plain (OpenSpec.ofChange callerResetsSpec)) callerResetsCard

/-- THE TIED CARD OF 'pouchlaw22.CallerOpens'. -/
def callerOpensCard : Claim7 := { stood := { row := callerOpensRow, standIns := [], harness := (true, "ac6dd66abe47d9f5a5254c5a667d51af700fbd6ffa1340c8c1ba259e5f197c99"), looks := true }, kinds := [], alts := [], laidByText := true, laidKinds := [.data, .data, .data, .data, .sentinel, .sentinel, .pinned], laidTests := true, laidLooks := .later }
def CallerOpensCardSaid : Prop := Claim7.holds Tryz.pinned (.plain (OpenSpec.ofChange callerOpensSpec)) callerOpensCard

/-- THE TIED CARD OF 'pouchlaw22.CallerFresh'. -/
def callerFreshCard : Claim7 := { stood := { row := callerFreshRow, standIns := [], harness := (true, "ac6dd66abe47d9f5a5254c5a667d51af700fbd6ffa1340c8c1ba259e5f197c99"), looks := true }, kinds := [], alts := [], laidByText := true, laidKinds := [.data, .data, .data, .data, .sentinel, .sentinel, .pinned], laidTests := true, laidLooks := .later }
def CallerFreshCardSaid : Prop := Claim7.holds Tryz.pinned (.plain (OpenSpec.ofChange callerFreshSpec)) callerFreshCard

/-- THE TIED CARD OF 'pouchlaw22.CallerReady'. -/
def callerReadyCard : Claim7 := { stood := { row := callerReadyRow, standIns := [], harness := (true, "ac6dd66abe47d9f5a5254c5a667d51af700fbd6ffa1340c8c1ba259e5f197c99"), looks := true }, kinds := [], alts := [], laidByText := true, laidKinds := [.data, .data, .data, .data, .sentinel, .sentinel, .pinned], laidTests := true, laidLooks := .later }
def CallerReadyCardSaid : Prop := Claim7.holds Tryz.pinned (.plain (OpenSpec.ofChange callerReadySpec)) callerReadyCard

/-- THE TIED CARD OF 'pouchlaw22.CallerMailing'. -/
def callerMailingCard : Claim7 := { stood := { row := callerMailingRow, standIns := [], harness := (true, "ac6dd66abe47d9f5a5254c5a667d51af700fbd6ffa1340c8c1ba259e5f197c99"), looks := true }, kinds := [], alts := [], laidByText := true, laidKinds := [.data, .data, .data, .data, .sentinel, .sentinel, .pinned], laidTests := true, laidLooks := .later }
def CallerMailingCardSaid : Prop := Claim7.holds Tryz.pinned (.plain (OpenSpec.ofChange callerMailingSpec)) callerMailingCard

/-- THE TIED CARD OF 'pouchlaw22.CallerNaming'. -/
def callerNamingCard : Claim7 := { stood := { row := callerNamingRow, standIns := [], harness := (true, "ac6dd66abe47d9f5a5254c5a667d51af700fbd6ffa1340c8c1ba259e5f197c99"), looks := true }, kinds := [], alts := [], laidByText := true, laidKinds := [.data, .data, .data, .data, .sentinel, .sentinel, .pinned], laidTests := true, laidLooks := .later }
def CallerNamingCardSaid : Prop := Claim7.holds Tryz.pinned (.plain (OpenSpec.ofChange callerNamingSpec)) callerNamingCard

/-- THE TIED CARD OF 'pouchlaw22.CallerTexting'. -/
def callerTextingCard : Claim7 := { stood := { row := callerTextingRow, standIns := [], harness := (true, "ac6dd66abe47d9f5a5254c5a667d51af700fbd6ffa1340c8c1ba259e5f197c99"), looks := true }, kinds := [], alts := [], laidByText := true, laidKinds := [.data, .data, .data, .data, .sentinel, .sentinel, .pinned], laidTests := true, laidLooks := .later }
def CallerTextingCardSaid : Prop := Claim7.holds Tryz.pinned (.plain (OpenSpec.ofChange callerTextingSpec)) callerTextingCard

/-- THE TIED CARD OF 'pouchlaw22.CallerExact'. -/
def callerExactCard : Claim7 := { stood := { row := callerExactRow, standIns := [], harness := (true, "ac6dd66abe47d9f5a5254c5a667d51af700fbd6ffa1340c8c1ba259e5f197c99"), looks := true }, kinds := [], alts := [], laidByText := true, laidKinds := [.data, .data, .data, .data, .sentinel, .sentinel, .pinned], laidTests := true, laidLooks := .later }
def CallerExactCardSaid : Prop := Claim7.holds Tryz.pinned (.plain (OpenSpec.ofChange callerExactSpec)) callerExactCard

/-- THE TIED CARD OF 'pouchlaw22.CallerSaid'. -/
def callerSaidCard : Claim7 := { stood := { row := callerSaidRow, standIns := [], harness := (true, "ac6dd66abe47d9f5a5254c5a667d51af700fbd6ffa1340c8c1ba259e5f197c99"), looks := true }, kinds := [], alts := [], laidByText := true, laidKinds := [.data, .data, .data, .data, .sentinel, .sentinel, .pinned], laidTests := true, laidLooks := .later }
def CallerSaidCardSaid : Prop := Claim7.holds Tryz.pinned (.plain (OpenSpec.ofChange callerSaidSpec)) callerSaidCard

/-- THE SECOND FORM's CARD OF 'pouchlaw22.CallerWrongs'. -/
def callerWrongsUptoCard : Claim7 := { stood := { row := callerWrongsUptoRow, standIns := [], harness := (true, "ac6dd66abe47d9f5a5254c5a667d51af700fbd6ffa1340c8c1ba259e5f197c99"), looks := true }, kinds := [], alts := [], laidByText := true, laidKinds := [.data, .data, .data, .data, .sentinel, .sentinel, .pinned], laidTests := true, laidLooks := .later }
def CallerWrongsUptoCardSaid : Prop := Claim7.holds Tryz.pinned (.plain (OpenSpec.upto callerWrongsSpec)) callerWrongsUptoCard

/-- THE SECOND FORM's CARD OF 'pouchlaw22.CallerLines'. -/
def callerLinesUptoCard : Claim7 := { stood := { row := callerLinesUptoRow, standIns := [], harness := (true, "ac6dd66abe47d9f5a5254c5a667d51af700fbd6ffa1340c8c1ba259e5f197c99"), looks := true }, kinds := [], alts := [], laidByText := true, laidKinds := [.data, .data, .data, .data, .sentinel, .sentinel, .pinned], laidTests := true, laidLooks := .later }
def CallerLinesUptoCardSaid : Prop := Claim7.holds Tryz.pinned (.plain (OpenSpec.upto callerLinesSpec)) callerLinesUptoCard

/-- THE SECOND FORM's CARD OF 'pouchlaw22.CallerYes'. -/
def callerYesUptoCard : Claim7 := { stood := { row := callerYesUptoRow, standIns := [], harness := (true, "ac6dd66abe47d9f5a5254c5a667d51af700fbd6ffa1340c8c1ba259e5f197c99"), looks := true }, kinds := [], alts := [], laidByText := true, laidKinds := [.data, .data, .data, .data, .sentinel, .sentinel, .pinned], laidTests := true, laidLooks := .later }
def CallerYesUptoCardSaid : Prop := Claim7.holds Tryz.pinned (.plain (OpenSpec.upto callerYesSpec)) callerYesUptoCard

/-- THE SECOND FORM's CARD OF 'pouchlaw22.CallerResets'. -/
def callerResetsUptoCard : Claim7 := { stood := { row := callerResetsUptoRow, standIns := [], harness := (true, "ac6dd66abe47d9f5a5254c5a667d51af700fbd6ffa1340c8c1ba259e5f197c99"), looks := true }, kinds := [], alts := [], laidByText := true, laidKinds := [.data, .data, .data, .data, .sentinel, .sentinel, .pinned], laidTests := true, laidLooks := .later }
def CallerResetsUptoCardSaid : Prop := Claim7.holds Tryz.pinned (.plain (OpenSpec.upto callerResetsSpec)) callerResetsUptoCard

/-- THE SECOND FORM's CARD OF 'pouchlaw22.CallerOpens'. -/
def callerOpensUptoCard : Claim7 := { stood := { row := callerOpensUptoRow, standIns := [], harness := (true, "ac6dd66abe47d9f5a5254c5a667d51af700fbd6ffa1340c8c1ba259e5f197c99"), looks := true }, kinds := [], alts := [], laidByText := true, laidKinds := [.data, .data, .data, .data, .sentinel, .sentinel, .pinned], laidTests := true, laidLooks := .later }
def CallerOpensUptoCardSaid : Prop := Claim7.holds Tryz.pinned (.plain (OpenSpec.upto callerOpensSpec)) callerOpensUptoCard

/-- THE SECOND FORM's CARD OF 'pouchlaw22.CallerFresh'. -/
def callerFreshUptoCard : Claim7 := { stood := { row := callerFreshUptoRow, standIns := [], harness := (true, "ac6dd66abe47d9f5a5254c5a667d51af700fbd6ffa1340c8c1ba259e5f197c99"), looks := true }, kinds := [], alts := [], laidByText := true, laidKinds := [.data, .data, .data, .data, .sentinel, .sentinel, .pinned], laidTests := true, laidLooks := .later }
def CallerFreshUptoCardSaid : Prop := Claim7.holds Tryz.pinned (.plain (OpenSpec.upto callerFreshSpec)) callerFreshUptoCard

/-- THE SECOND FORM's CARD OF 'pouchlaw22.CallerReady'. -/
def callerReadyUptoCard : Claim7 := { stood := { row := callerReadyUptoRow, standIns := [], harness := (true, "ac6dd66abe47d9f5a5254c5a667d51af700fbd6ffa1340c8c1ba259e5f197c99"), looks := true }, kinds := [], alts := [], laidByText := true, laidKinds := [.data, .data, .data, .data, .sentinel, .sentinel, .pinned], laidTests := true, laidLooks := .later }
def CallerReadyUptoCardSaid : Prop := Claim7.holds Tryz.pinned (.plain (OpenSpec.upto callerReadySpec)) callerReadyUptoCard

/-- THE SECOND FORM's CARD OF 'pouchlaw22.CallerMailing'. -/
def callerMailingUptoCard : Claim7 := { stood := { row := callerMailingUptoRow, standIns := [], harness := (true, "ac6dd66abe47d9f5a5254c5a667d51af700fbd6ffa1340c8c1ba259e5f197c99"), looks := true }, kinds := [], alts := [], laidByText := true, laidKinds := [.data, .data, .data, .data, .sentinel, .sentinel, .pinned], laidTests := true, laidLooks := .later }
def CallerMailingUptoCardSaid : Prop := Claim7.holds Tryz.pinned (.plain (OpenSpec.upto callerMailingSpec)) callerMailingUptoCard

/-- THE SECOND FORM's CARD OF 'pouchlaw22.CallerNaming'. -/
def callerNamingUptoCard : Claim7 := { stood := { row := callerNamingUptoRow, standIns := [], harness := (true, "ac6dd66abe47d9f5a5254c5a667d51af700fbd6ffa1340c8c1ba259e5f197c99"), looks := true }, kinds := [], alts := [], laidByText := true, laidKinds := [.data, .data, .data, .data, .sentinel, .sentinel, .pinned], laidTests := true, laidLooks := .later }
def CallerNamingUptoCardSaid : Prop := Claim7.holds Tryz.pinned (.plain (OpenSpec.upto callerNamingSpec)) callerNamingUptoCard

/-- THE SECOND FORM's CARD OF 'pouchlaw22.CallerTexting'. -/
def callerTextingUptoCard : Claim7 := { stood := { row := callerTextingUptoRow, standIns := [], harness := (true, "ac6dd66abe47d9f5a5254c5a667d51af700fbd6ffa1340c8c1ba259e5f197c99"), looks := true }, kinds := [], alts := [], laidByText := true, laidKinds := [.data, .data, .data, .data, .sentinel, .sentinel, .pinned], laidTests := true, laidLooks := .later }
def CallerTextingUptoCardSaid : Prop := Claim7.holds Tryz.pinned (.plain (OpenSpec.upto callerTextingSpec)) callerTextingUptoCard

/-- THE SECOND FORM's CARD OF 'pouchlaw22.CallerExact'. -/
def callerExactUptoCard : Claim7 := { stood := { row := callerExactUptoRow, standIns := [], harness := (true, "ac6dd66abe47d9f5a5254c5a667d51af700fbd6ffa1340c8c1ba259e5f197c99"), looks := true }, kinds := [], alts := [], laidByText := true, laidKinds := [.data, .data, .data, .data, .sentinel, .sentinel, .pinned], laidTests := true, laidLooks := .later }
def CallerExactUptoCardSaid : Prop := Claim7.holds Tryz.pinned (.plain (OpenSpec.upto callerExactSpec)) callerExactUptoCard

/-- THE SECOND FORM's CARD OF 'pouchlaw22.CallerSaid'. -/
def callerSaidUptoCard : Claim7 := { stood := { row := callerSaidUptoRow, standIns := [], harness := (true, "ac6dd66abe47d9f5a5254c5a667d51af700fbd6ffa1340c8c1ba259e5f197c99"), looks := true }, kinds := [], alts := [], laidByText := true, laidKinds := [.data, .data, .data, .data, .sentinel, .sentinel, .pinned], laidTests := true, laidLooks := .later }
def CallerSaidUptoCardSaid : Prop := Claim7.holds Tryz.pinned (.plain (OpenSpec.upto callerSaidSpec)) callerSaidUptoCard
end Rows
end Go.Proofs.YtdohilmgblkppaaGreatDoor
