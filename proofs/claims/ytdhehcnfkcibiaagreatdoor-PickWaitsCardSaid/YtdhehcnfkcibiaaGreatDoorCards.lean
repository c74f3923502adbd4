/-
  DERIVED. GIVEN WITH THE SEED: THE CARDS: each row of YtdhehcnfkcibiaaGreatDoorRows.lean that lists a variable, with what it lists TIED to the program's text (the seventh form; the later family's looks); each row that meets fmt, with fmt's text TOLD by the authors' own Lean function (tested against real Go, not proved from fmt's source: count such statements apart). THE CARD IS WHAT COUNTS. Prove the row's statement (the work); the ties are given (YtdhehcnfkcibiaaGreatDoorTie.lean); close each card by the builder's one call (the guide's Derived/Test/ToyasCard.lean, 'card_holds'). Laid BY PROGRAM, IN A SANDBOX (cutbox-door.mjs). By AI agents, Wed Nov 11 2026. No macro, syntax, notation, axiom, sorry.
-/
import Derived.Test.YtdhehcnfkcibiaaGreatDoorRows
import GoSem.ClaimSeven
namespace Go.Proofs.YtdhehcnfkcibiaaGreatDoor
namespace Rows

/-- THE TIED CARD OF 'pouchlaw20.PickJobs'. -/
def pickJobsCard : Claim7 := { stood := { row := pickJobsRow, standIns := [], harness := (true, "59d88ca482fd0cac2b67b612f2189b743ace6c43d0a08cbd17bc663144a60f55"), looks := true }, kinds := [], alts := [], laidByText := true, laidKinds := [.data, .data, .data, .data, .sentinel, .sentinel, .pinned], laidTests := true, laidLooks := .later }
def PickJobsCardSaid : Prop := Claim7.holds Tryz.pinned (.plain (OpenSpec.ofChange pickJobsSpec)) pickJobsCard

/-- THE TIED CARD OF 'pouchlaw20.PickWaits'. -/
def pickWaitsCard : Claim7 := { stood := { row := pickWaitsRow, standIns := [], harness := (true, "59d88ca482fd0cac2b67b612f2189b743ace6c43d0a08cbd17bc663144a60f55"), looks := true }, kinds := [], alts := [], laidByText := true, laidKinds := [.data, .data, .data, .data, .sentinel, .sentinel, .pinned], laidTests := true, laidLooks := .later }
def PickWaitsCardSaid : Prop := Claim7.holds Tryz.pinned (.plain (OpenSpec.ofChange pickWaitsSpec)) pickWaitsCard

/-- THE TIED CARD OF 'pouchlaw20.PickParts'. -/
def pickPartsCard : Claim7 := { stood := { row := pickPartsRow, standIns := [], harness := (true, "59d88ca482fd0cac2b67b612f2189b743ace6c43d0a08cbd17bc663144a60f55"), looks := true }, kinds := [], alts := [], laidByText := true, laidKinds := [.data, .data, .data, .data, .sentinel, .sentinel, .pinned], laidTests := true, laidLooks := .later }
def PickPartsCardSaid : Prop := Claim7.holds Tryz.pinned (.plain (OpenSpec.ofChange pickPartsSpec)) pickPartsCard

/-- THE TIED CARD OF 'pouchlaw17.SpoolQuotas'. -/
def spoolQuotasCard : Claim7 := { stood := { row := spoolQuotasRow, standIns := [], harness := (true, "59d88ca482fd0cac2b67b612f2189b743ace6c43d0a08cbd17bc663144a60f55"), looks := true }, kinds := [], alts := [], laidByText := true, laidKinds := [.data, .data, .data, .data, .sentinel, .sentinel, .pinned], laidTests := true, laidLooks := .later }
def SpoolQuotasCardSaid : Prop := Claim7.holds Tryz.pinned (.plain (OpenSpec.ofChange spoolQuotasSpec)) spoolQuotasCard

/-- THE TIED CARD OF 'pouchlaw17.SpoolNumbers'. -/
def spoolNumbersCard : Claim7 := { stood := { row := spoolNumbersRow, standIns := [], harness := (true, "59d88ca482fd0cac2b67b612f2189b743ace6c43d0a08cbd17bc663144a60f55"), looks := true }, kinds := [], alts := [], laidByText := true, laidKinds := [.data, .data, .data, .data, .sentinel, .sentinel, .pinned], laidTests := true, laidLooks := .later }
def SpoolNumbersCardSaid : Prop := Claim7.holds Tryz.pinned (.plain (OpenSpec.ofChange spoolNumbersSpec)) spoolNumbersCard

/-- THE TIED CARD OF 'pouchlaw17.SpoolUses'. -/
def spoolUsesCard : Claim7 := { stood := { row := spoolUsesRow, standIns := [], harness := (true, "59d88ca482fd0cac2b67b612f2189b743ace6c43d0a08cbd17bc663144a60f55"), looks := true }, kinds := [], alts := [], laidByText := true, laidKinds := [.data, .data, .data, .data, .sentinel, .sentinel, .pinned], laidTests := true, laidLooks := .later }
def SpoolUsesCardSaid : Prop := Claim7.holds Tryz.pinned (.plain (OpenSpec.ofChange spoolUsesSpec)) spoolUsesCard

/-- THE TIED CARD OF 'pouchlaw17.SpoolRooms'. -/
def spoolRoomsCard : Claim7 := { stood := { row := spoolRoomsRow, standIns := [], harness := (true, "59d88ca482fd0cac2b67b612f2189b743ace6c43d0a08cbd17bc663144a60f55"), looks := true }, kinds := [], alts := [], laidByText := true, laidKinds := [.data, .data, .data, .data, .sentinel, .sentinel, .pinned], laidTests := true, laidLooks := .later }
def SpoolRoomsCardSaid : Prop := Claim7.holds Tryz.pinned (.plain (OpenSpec.ofChange spoolRoomsSpec)) spoolRoomsCard

/-- THE TIED CARD OF 'pouchlaw17.SpoolAdds'. -/
def spoolAddsCard : Claim7 := { stood := { row := spoolAddsRow, standIns := [], harness := (true, "59d88ca482fd0cac2b67b612f2189b743ace6c43d0a08cbd17bc663144a60f55"), looks := true }, kinds := [], alts := [], laidByText := true, laidKinds := [.data, .data, .data, .data, .sentinel, .sentinel, .pinned], laidTests := true, laidLooks := .later }
def SpoolAddsCardSaid : Prop := Claim7.holds Tryz.pinned (.plain (OpenSpec.ofChange spoolAddsSpec)) spoolAddsCard

/-- THE TIED CARD OF 'pouchlaw17.SpoolGets'. -/
def spoolGetsCard : Claim7 := { stood := { row := spoolGetsRow, standIns := [], harness := (true, "59d88ca482fd0cac2b67b612f2189b743ace6c43d0a08cbd17bc663144a60f55"), looks := true }, kinds := [], alts := [], laidByText := true, laidKinds := [.data, .data, .data, .data, .sentinel, .sentinel, .pinned], laidTests := true, laidLooks := .later }
def SpoolGetsCardSaid : Prop := Claim7.holds Tryz.pinned (.plain (OpenSpec.ofChange spoolGetsSpec)) spoolGetsCard

/-- THE TIED CARD OF 'pouchlaw20.PickOnce'. -/
def pickOnceCard : Claim7 := { stood := { row := pickOnceRow, standIns := [], harness := (true, "59d88ca482fd0cac2b67b612f2189b743ace6c43d0a08cbd17bc663144a60f55"), looks := true }, kinds := [], alts := [], laidByText := true, laidKinds := [.data, .data, .data, .data, .sentinel, .sentinel, .pinned], laidTests := true, laidLooks := .later }
def PickOnceCardSaid : Prop := Claim7.holds Tryz.pinned (.plain (OpenSpec.ofChange pickOnceSpec)) pickOnceCard

/-- THE TIED CARD OF 'pouchlaw20.PickCodes'. -/
def pickCodesCard : Claim7 := { stood := { row := pickCodesRow, standIns := [], harness := (true, "59d88ca482fd0cac2b67b612f2189b743ace6c43d0a08cbd17bc663144a60f55"), looks := true }, kinds := [], alts := [], laidByText := true, laidKinds := [.data, .data, .data, .data, .sentinel, .sentinel, .pinned], laidTests := true, laidLooks := .later }
def PickCodesCardSaid : Prop := Claim7.holds Tryz.pinned (.plain (OpenSpec.ofChange pickCodesSpec)) pickCodesCard

/-- THE TIED CARD OF 'pouchlaw24.AdminWrongs'. -/
def adminWrongsCard : Claim7 := { stood := { row := adminWrongsRow, standIns := [], harness := (true, "59d88ca482fd0cac2b67b612f2189b743ace6c43d0a08cbd17bc663144a60f55"), looks := true }, kinds := [], alts := [], laidByText := true, laidKinds := [.data, .data, .data, .data, .sentinel, .sentinel, .pinned], laidTests := true, laidLooks := .later }
def AdminWrongsCardSaid : Prop := Claim7.holds Tryz.pinned (.plain (OpenSpec.ofChange adminWrongsSpec)) adminWrongsCard

/-- THE SECOND FORM's CARD OF 'pouchlaw20.PickJobs'. -/
def pickJobsUptoCard : Claim7 := { stood := { row := pickJobsUptoRow, standIns := [], harness := (true, "59d88ca482fd0cac2b67b612f2189b743ace6c43d0a08cbd17bc663144a60f55"), looks := true }, kinds := [], alts := [], laidByText := true, laidKinds := [.data, .data, .data, .data, .sentinel, .sentinel, .pinned], laidTests := true, laidLooks := .later }
def PickJobsUptoCardSaid : Prop := Claim7.holds Tryz.pinned (.plain (OpenSpec.upto pickJobsSpec)) pickJobsUptoCard

/-- THE SECOND FORM's CARD OF 'pouchlaw20.PickWaits'. -/
def pickWaitsUptoCard : Claim7 := { stood := { row := pickWaitsUptoRow, standIns := [], harness := (true, "59d88ca482fd0cac2b67b612f2189b743ace6c43d0a08cbd17bc663144a60f55"), looks := true }, kinds := [], alts := [], laidByText := true, laidKinds := [.data, .data, .data, .data, .sentinel, .sentinel, .pinned], laidTests := true, laidLooks := .later }
def PickWaitsUptoCardSaid : Prop := Claim7.holds Tryz.pinned (.plain (OpenSpec.upto pickWaitsSpec)) pickWaitsUptoCard

/-- THE SECOND FORM's CARD OF 'pouchlaw20.PickParts'. -/
def pickPartsUptoCard : Claim7 := { stood := { row := pickPartsUptoRow, standIns := [], harness := (true, "59d88ca482fd0cac2b67b612f2189b743ace6c43d0a08cbd17bc663144a60f55"), looks := true }, kinds := [], alts := [], laidByText := true, laidKinds := [.data, .data, .data, .data, .sentinel, .sentinel, .pinned], laidTests := true, laidLooks := .later }
def PickPartsUptoCardSaid : Prop := Claim7.holds Tryz.pinned (.plain (OpenSpec.upto pickPartsSpec)) pickPartsUptoCard

/-- THE SECOND FORM's CARD OF 'pouchlaw17.SpoolQuotas'. -/
def spoolQuotasUptoCard : Claim7 := { stood := { row := spoolQuotasUptoRow, standIns := [], harness := (true, "59d88ca482fd0cac2b67b612f2189b743ace6c43d0a08cbd17bc663144a60f55"), looks := true }, kinds := [], alts := [], laidByText := true, laidKinds := [.data, .data, .data, .data, .sentinel, .sentinel, .pinned], laidTests := true, laidLooks := .later }
def SpoolQuotasUptoCardSaid : Prop := Claim7.holds Tryz.pinned (.plain (OpenSpec.upto spoolQuotasSpec)) spoolQuotasUptoCard

/-- THE SECOND FORM's CARD OF 'pouchlaw17.SpoolNumbers'. -/
def spoolNumbersUptoCard : Claim7 := { stood := { row := spoolNumbersUptoRow, standIns := [], harness := (true, "59d88ca482fd0cac2b67b612f2189b743ace6c43d0a08cbd17bc663144a60f55"), looks := true }, kinds := [], alts := [], laidByText := true, laidKinds := [.data, .data, .data, .data, .sentinel, .sentinel, .pinned], laidTests := true, laidLooks := .later }
def SpoolNumbersUptoCardSaid : Prop := Claim7.holds Tryz.pinned (.plain (OpenSpec.upto spoolNumbersSpec)) spoolNumbersUptoCard

/-- THE SECOND FORM's CARD OF 'pouchlaw17.SpoolUses'. -/
def spoolUsesUptoCard : Claim7 := { stood := { row := spoolUsesUptoRow, standIns := [], harness := (true, "59d88ca482fd0cac2b67b612f2189b743ace6c43d0a08cbd17bc663144a60f55"), looks := true }, kinds := [], alts := [], laidByText := true, laidKinds := [.data, .data, .data, .data, .sentinel, .sentinel, .pinned], laidTests := true, laidLooks := .later }
def SpoolUsesUptoCardSaid : Prop := Claim7.holds Tryz.pinned (.plain (OpenSpec.upto spoolUsesSpec)) spoolUsesUptoCard

/-- THE SECOND FORM's CARD OF 'pouchlaw17.SpoolRooms'. -/
def spoolRoomsUptoCard : Claim7 := { stood := { row := spoolRoomsUptoRow, standIns := [], harness := (true, "59d88ca482fd0cac2b67b612f2189b743ace6c43d0a08cbd17bc663144a60f55"), looks := true }, kinds := [], alts := [], laidByText := true, laidKinds := [.data, .data, .data, .data, .sentinel, .sentinel, .pinned], laidTests := true, laidLooks := .later }
def SpoolRoomsUptoCardSaid : Prop := Claim7.holds Tryz.pinned (.plain (OpenSpec.upto spoolRoomsSpec)) spoolRoomsUptoCard

/-- THE SECOND FORM's CARD OF 'pouchlaw17.SpoolAdds'. -/
def spoolAddsUptoCard : Claim7 := { stood := { row := spoolAddsUptoRow, standIns := [], harness := (true, "59d88ca482fd0cac2b67b612f2189b743ace6c43d0a08cbd17bc663144a60f55"), looks := true }, kinds := [], alts := [], laidByText := true, laidKinds := [.data, .data, .data, .data, .sentinel, .sentinel, .pinned], laidTests := true, laidLooks := .later }
def SpoolAddsUptoCardSaid : Prop := Claim7.holds Tryz.pinned (.plain (OpenSpec.upto spoolAddsSpec)) spoolAddsUptoCard

/-- THE SECOND FORM's CARD OF 'pouchlaw17.SpoolGets'. -/
def spoolGetsUptoCard : Claim7 := { stood := { row := spoolGetsUptoRow, standIns := [], harness := (true, "59d88ca482fd0cac2b67b612f2189b743ace6c43d0a08cbd17bc663144a60f55"), looks := true }, kinds := [], alts := [], laidByText := true, laidKinds := [.data, .data, .data, .data, .sentinel, .sentinel, .pinned], laidTests := true, laidLooks := .later }
def SpoolGetsUptoCardSaid : Prop := Claim7.holds Tryz.pinned (.plain (OpenSpec.upto spoolGetsSpec)) spoolGetsUptoCard

/-- THE SECOND FORM's CARD OF 'pouchlaw20.PickOnce'. -/
def pickOnceUptoCard : Claim7 := { stood := { row := pickOnceUptoRow, standIns := [], harness := (true, "59d88ca482fd0cac2b67b612f2189b743ace6c43d0a08cbd17bc663144a60f55"), looks := true }, kinds := [], alts := [], laidByText := true, laidKinds := [.data, .data, .data, .data, .sentinel, .sentinel, .pinned], laidTests := true, laidLooks := .later }
def PickOnceUptoCardSaid : Prop := Claim7.holds Tryz.pinned (.plain (OpenSpec.upto pickOnceSpec)) pickOnceUptoCard

/-- THE SECOND FORM's CARD OF 'pouchlaw20.PickCodes'. -/
def pickCodesUptoCard : Claim7 := { stood := { row := pickCodesUptoRow, standIns := [], harness := (true, "59d88ca482fd0cac2b67b612f2189b743ace6c43d0a08cbd17bc663144a60f55"), looks := true }, kinds := [], alts := [], laidByText := true, laidKinds := [.data, .data, .data, .data, .sentinel, .sentinel, .pinned], laidTests := true, laidLooks := .later }
def PickCodesUptoCardSaid : Prop := Claim7.holds Tryz.pinned (.plain (OpenSpec.upto pickCodesSpec)) pickCodesUptoCard

/-- THE SECOND FORM's CARD OF 'pouchlaw24.AdminWrongs'. -/
def adminWrongsUptoCard : Claim7 := { stood := { row := adminWrongsUptoRow, standIns := [], harness := (true, "59d88ca482fd0cac2b67b612f2189b743ace6c43d0a08cbd17bc663144a60f55"), looks := true }, kinds := [], alts := [], laidByText := true, laidKinds := [.data, .data, .data, .data, .sentinel, .sentinel, .pinned], laidTests := true, laidLooks := .later }
def AdminWrongsUptoCardSaid : Prop := Claim7.holds Tryz.pinned (.plain (OpenSpec.upto adminWrongsSpec)) adminWrongsUptoCard
end Rows
end Go.Proofs.YtdhehcnfkcibiaaGreatDoor
