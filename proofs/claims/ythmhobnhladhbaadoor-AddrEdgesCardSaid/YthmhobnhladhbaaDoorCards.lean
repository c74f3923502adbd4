/-
  DERIVED. GIVEN WITH THE SEED: THE CARDS: each row of YthmhobnhladhbaaDoorRows.lean that lists a variable, with what it lists TIED to the program's text (the seventh form; the later family's looks); each row that meets fmt, with fmt's text TOLD by the authors' own Lean function (tested against real Go, not proved from fmt's source: count such statements apart). THE CARD IS WHAT COUNTS. Prove the row's statement (the work); the ties are given (YthmhobnhladhbaaDoorTie.lean); close each card by the builder's one call (the guide's Derived/Test/ToyasCard.lean, 'card_holds'). Laid BY PROGRAM, IN A SANDBOX (cutbox-door.mjs). By AI agents, Wed Nov 11 2026. No macro, syntax, notation, axiom, sorry.
-/
import Derived.Test.YthmhobnhladhbaaDoorRows
import GoSem.ClaimSeven
namespace Go.Proofs.YthmhobnhladhbaaDoor
namespace Rows

/-- THE TIED CARD OF 'pouchlaw4.AddrParses'. -/
def addrParsesCard : Claim7 := { stood := { row := addrParsesRow, standIns := [], harness := (true, "5a7a69f4aa66a4663e28691f67f4bcfee207632dd1f6a68f3be5ba23ca891800"), looks := true }, kinds := [], alts := [], laidByText := true, laidKinds := [.data, .data, .data, .data, .sentinel, .sentinel, .pinned], laidTests := true, laidLooks := .later }
def AddrParsesCardSaid : Prop := Claim7.holds Tryd.pinned (.plain (OpenSpec.ofChange addrParsesSpec)) addrParsesCard

/-- THE TIED CARD OF 'pouchlaw4.AddrQuotes'. -/
def addrQuotesCard : Claim7 := { stood := { row := addrQuotesRow, standIns := [], harness := (true, "5a7a69f4aa66a4663e28691f67f4bcfee207632dd1f6a68f3be5ba23ca891800"), looks := true }, kinds := [], alts := [], laidByText := true, laidKinds := [.data, .data, .data, .data, .sentinel, .sentinel, .pinned], laidTests := true, laidLooks := .later }
def AddrQuotesCardSaid : Prop := Claim7.holds Tryd.pinned (.plain (OpenSpec.ofChange addrQuotesSpec)) addrQuotesCard

/-- THE TIED CARD OF 'pouchlaw4.AddrDomains'. -/
def addrDomainsCard : Claim7 := { stood := { row := addrDomainsRow, standIns := [], harness := (true, "5a7a69f4aa66a4663e28691f67f4bcfee207632dd1f6a68f3be5ba23ca891800"), looks := true }, kinds := [], alts := [], laidByText := true, laidKinds := [.data, .data, .data, .data, .sentinel, .sentinel, .pinned], laidTests := true, laidLooks := .later }
def AddrDomainsCardSaid : Prop := Claim7.holds Tryd.pinned (.plain (OpenSpec.ofChange addrDomainsSpec)) addrDomainsCard

/-- THE TIED CARD OF 'pouchlaw4.AddrPaths'. -/
def addrPathsCard : Claim7 := { stood := { row := addrPathsRow, standIns := [], harness := (true, "5a7a69f4aa66a4663e28691f67f4bcfee207632dd1f6a68f3be5ba23ca891800"), looks := true }, kinds := [], alts := [], laidByText := true, laidKinds := [.data, .data, .data, .data, .sentinel, .sentinel, .pinned], laidTests := true, laidLooks := .later }
def AddrPathsCardSaid : Prop := Claim7.holds Tryd.pinned (.plain (OpenSpec.ofChange addrPathsSpec)) addrPathsCard

/-- THE TIED CARD OF 'pouchlaw4.AddrEdges'. -/
def addrEdgesCard : Claim7 := { stood := { row := addrEdgesRow, standIns := [], harness := (true, "5a7a69f4aa66a4663e28691f67f4bcfee207632dd1f6a68f3be5ba23ca891800"), looks := true }, kinds := [], alts := [], laidByText := true, laidKinds := [.data, .data, .data, .data, .sentinel, .sentinel, .pinned], laidTests := true, laidLooks := .later }
def AddrEdgesCardSaid : Prop := Claim7.holds Tryd.pinned (.plain (OpenSpec.ofChange addrEdgesSpec)) addrEdgesCard

/-- THE TIED CARD OF 'pouchlaw4.AddrTexts'. -/
def addrTextsCard : Claim7 := { stood := { row := addrTextsRow, standIns := [], harness := (true, "5a7a69f4aa66a4663e28691f67f4bcfee207632dd1f6a68f3be5ba23ca891800"), looks := true }, kinds := [], alts := [], laidByText := true, laidKinds := [.data, .data, .data, .data, .sentinel, .sentinel, .pinned], laidTests := true, laidLooks := .later }
def AddrTextsCardSaid : Prop := Claim7.holds Tryd.pinned (.plain (OpenSpec.ofChange addrTextsSpec)) addrTextsCard

/-- THE TIED CARD OF 'pouchlaw4.AddrBack'. -/
def addrBackCard : Claim7 := { stood := { row := addrBackRow, standIns := [], harness := (true, "5a7a69f4aa66a4663e28691f67f4bcfee207632dd1f6a68f3be5ba23ca891800"), looks := true }, kinds := [], alts := [], laidByText := true, laidKinds := [.data, .data, .data, .data, .sentinel, .sentinel, .pinned], laidTests := true, laidLooks := .later }
def AddrBackCardSaid : Prop := Claim7.holds Tryd.pinned (.plain (OpenSpec.ofChange addrBackSpec)) addrBackCard

/-- THE SECOND FORM's CARD OF 'pouchlaw4.AddrParses'. -/
def addrParsesUptoCard : Claim7 := { stood := { row := addrParsesUptoRow, standIns := [], harness := (true, "5a7a69f4aa66a4663e28691f67f4bcfee207632dd1f6a68f3be5ba23ca891800"), looks := true }, kinds := [], alts := [], laidByText := true, laidKinds := [.data, .data, .data, .data, .sentinel, .sentinel, .pinned], laidTests := true, laidLooks := .later }
def AddrParsesUptoCardSaid : Prop := Claim7.holds Tryd.pinned (.plain (OpenSpec.upto addrParsesSpec)) addrParsesUptoCard

/-- THE SECOND FORM's CARD OF 'pouchlaw4.AddrQuotes'. -/
def addrQuotesUptoCard : Claim7 := { stood := { row := addrQuotesUptoRow, standIns := [], harness := (true, "5a7a69f4aa66a4663e28691f67f4bcfee207632dd1f6a68f3be5ba23ca891800"), looks := true }, kinds := [], alts := [], laidByText := true, laidKinds := [.data, .data, .data, .data, .sentinel, .sentinel, .pinned], laidTests := true, laidLooks := .later }
def AddrQuotesUptoCardSaid : Prop := Claim7.holds Tryd.pinned (.plain (OpenSpec.upto addrQuotesSpec)) addrQuotesUptoCard

/-- THE SECOND FORM's CARD OF 'pouchlaw4.AddrDomains'. -/
def addrDomainsUptoCard : Claim7 := { stood := { row := addrDomainsUptoRow, standIns := [], harness := (true, "5a7a69f4aa66a4663e28691f67f4bcfee207632dd1f6a68f3be5ba23ca891800"), looks := true }, kinds := [], alts := [], laidByText := true, laidKinds := [.data, .data, .data, .data, .sentinel, .sentinel, .pinned], laidTests := true, laidLooks := .later }
def AddrDomainsUptoCardSaid : Prop := Claim7.holds Tryd.pinned (.plain (OpenSpec.upto addrDomainsSpec)) addrDomainsUptoCard

/-- THE SECOND FORM's CARD OF 'pouchlaw4.AddrPaths'. -/
def addrPathsUptoCard : Claim7 := { stood := { row := addrPathsUptoRow, standIns := [], harness := (true, "5a7a69f4aa66a4663e28691f67f4bcfee207632dd1f6a68f3be5ba23ca891800"), looks := true }, kinds := [], alts := [], laidByText := true, laidKinds := [.data, .data, .data, .data, .sentinel, .sentinel, .pinned], laidTests := true, laidLooks := .later }
def AddrPathsUptoCardSaid : Prop := Claim7.holds Tryd.pinned (.plain (OpenSpec.upto addrPathsSpec)) addrPathsUptoCard

/-- THE SECOND FORM's CARD OF 'pouchlaw4.AddrEdges'. -/
def addrEdgesUptoCard : Claim7 := { stood := { row := addrEdgesUptoRow, standIns := [], harness := (true, "5a7a69f4aa66a4663e28691f67f4bcfee207632dd1f6a68f3be5ba23ca891800"), looks := true }, kinds := [], alts := [], laidByText := true, laidKinds := [.data, .data, .data, .data, .sentinel, .sentinel, .pinned], laidTests := true, laidLooks := .later }
def AddrEdgesUptoCardSaid : Prop := Claim7.holds Tryd.pinned (.plain (OpenSpec.upto addrEdgesSpec)) addrEdgesUptoCard

/-- THE SECOND FORM's CARD OF 'pouchlaw4.AddrTexts'. -/
def addrTextsUptoCard : Claim7 := { stood := { row := addrTextsUptoRow, standIns := [], harness := (true, "5a7a69f4aa66a4663e28691f67f4bcfee207632dd1f6a68f3be5ba23ca891800"), looks := true }, kinds := [], alts := [], laidByText := true, laidKinds := [.data, .data, .data, .data, .sentinel, .sentinel, .pinned], laidTests := true, laidLooks := .later }
def AddrTextsUptoCardSaid : Prop := Claim7.holds Tryd.pinned (.plain (OpenSpec.upto addrTextsSpec)) addrTextsUptoCard

/-- THE SECOND FORM's CARD OF 'pouchlaw4.AddrBack'. -/
def addrBackUptoCard : Claim7 := { stood := { row := addrBackUptoRow, standIns := [], harness := (true, "5a7a69f4aa66a4663e28691f67f4bcfee207632dd1f6a68f3be5ba23ca891800"), looks := true }, kinds := [], alts := [], laidByText := true, laidKinds := [.data, .data, .data, .data, .sentinel, .sentinel, .pinned], laidTests := true, laidLooks := .later }
def AddrBackUptoCardSaid : Prop := Claim7.holds Tryd.pinned (.plain (OpenSpec.upto addrBackSpec)) addrBackUptoCard
end Rows
end Go.Proofs.YthmhobnhladhbaaDoor
