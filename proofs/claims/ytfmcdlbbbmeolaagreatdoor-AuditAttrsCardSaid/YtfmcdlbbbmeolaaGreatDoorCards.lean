/-
  DERIVED. GIVEN WITH THE SEED: THE CARDS: each row of YtfmcdlbbbmeolaaGreatDoorRows.lean that lists a variable, with what it lists TIED to the program's text (the seventh form; the later family's looks); each row that meets fmt, with fmt's text TOLD by the authors' own Lean function (tested against real Go, not proved from fmt's source: count such statements apart). THE CARD IS WHAT COUNTS. Prove the row's statement (the work); the ties are given (YtfmcdlbbbmeolaaGreatDoorTie.lean); close each card by the builder's one call (the guide's Derived/Test/ToyasCard.lean, 'card_holds'). Laid BY PROGRAM, IN A SANDBOX (cutbox-door.mjs). By AI agents, Wed Nov 11 2026. No macro, syntax, notation, axiom, sorry.
-/
import Derived.Test.YtfmcdlbbbmeolaaGreatDoorRows
import GoSem.ClaimSeven
namespace Go.Proofs.YtfmcdlbbbmeolaaGreatDoor
namespace Rows

/-- THE TIED CARD OF 'stolelaw5.Tokens'. -/
def tokensCard : Claim7 := { stood := { row := tokensRow, standIns := [], harness := (true, "9131e18c717af59d1b5fa37c8867ab1f2996b631460448b3a5f79ed1e3a0ad03"), looks := true }, kinds := [], alts := [], laidByText := true, laidKinds := [.data, .pinned], laidTests := true, laidLooks := .later }
def TokensCardSaid : Prop := Claim7.holds Tryz.pinned (.plain (OpenSpec.ofChange tokensSpec)) tokensCard

/-- THE TIED CARD OF 'stolelaw5.TokenTags'. -/
def tokenTagsCard : Claim7 := { stood := { row := tokenTagsRow, standIns := [], harness := (true, "9131e18c717af59d1b5fa37c8867ab1f2996b631460448b3a5f79ed1e3a0ad03"), looks := true }, kinds := [], alts := [], laidByText := true, laidKinds := [.data, .pinned], laidTests := true, laidLooks := .later }
def TokenTagsCardSaid : Prop := Claim7.holds Tryz.pinned (.plain (OpenSpec.ofChange tokenTagsSpec)) tokenTagsCard

/-- THE TIED CARD OF 'stolelaw8.Pages'. -/
def pagesCard : Claim7 := { stood := { row := pagesRow, standIns := [], harness := (true, "9131e18c717af59d1b5fa37c8867ab1f2996b631460448b3a5f79ed1e3a0ad03"), looks := true }, kinds := [], alts := [], laidByText := true, laidKinds := [.data, .data, .data, .data, .pinned], laidTests := true, laidLooks := .later }
def PagesCardSaid : Prop := Claim7.holds Tryz.pinned (.plain (OpenSpec.ofChange pagesSpec)) pagesCard

/-- THE TIED CARD OF 'stolelaw8.PageTexts'. -/
def pageTextsCard : Claim7 := { stood := { row := pageTextsRow, standIns := [], harness := (true, "9131e18c717af59d1b5fa37c8867ab1f2996b631460448b3a5f79ed1e3a0ad03"), looks := true }, kinds := [], alts := [], laidByText := true, laidKinds := [.data, .data, .data, .data, .pinned], laidTests := true, laidLooks := .later }
def PageTextsCardSaid : Prop := Claim7.holds Tryz.pinned (.plain (OpenSpec.ofChange pageTextsSpec)) pageTextsCard

/-- THE TIED CARD OF 'stolelaw8.PageForms'. -/
def pageFormsCard : Claim7 := { stood := { row := pageFormsRow, standIns := [], harness := (true, "9131e18c717af59d1b5fa37c8867ab1f2996b631460448b3a5f79ed1e3a0ad03"), looks := true }, kinds := [], alts := [], laidByText := true, laidKinds := [.data, .data, .data, .data, .pinned], laidTests := true, laidLooks := .later }
def PageFormsCardSaid : Prop := Claim7.holds Tryz.pinned (.plain (OpenSpec.ofChange pageFormsSpec)) pageFormsCard

/-- THE TIED CARD OF 'stolelaw8.PageRows'. -/
def pageRowsCard : Claim7 := { stood := { row := pageRowsRow, standIns := [], harness := (true, "9131e18c717af59d1b5fa37c8867ab1f2996b631460448b3a5f79ed1e3a0ad03"), looks := true }, kinds := [], alts := [], laidByText := true, laidKinds := [.data, .data, .data, .data, .pinned], laidTests := true, laidLooks := .later }
def PageRowsCardSaid : Prop := Claim7.holds Tryz.pinned (.plain (OpenSpec.ofChange pageRowsSpec)) pageRowsCard

/-- THE TIED CARD OF 'stolelaw24.Audits'. -/
def auditsCard : Claim7 := { stood := { row := auditsRow, standIns := [], harness := (true, "9131e18c717af59d1b5fa37c8867ab1f2996b631460448b3a5f79ed1e3a0ad03"), looks := true }, kinds := [], alts := [], laidByText := true, laidKinds := [.data, .data, .data, .data, .pinned], laidTests := true, laidLooks := .later }
def AuditsCardSaid : Prop := Claim7.holds Tryz.pinned (.plain (OpenSpec.ofChange auditsSpec)) auditsCard

/-- THE TIED CARD OF 'stolelaw24.AuditTexts'. -/
def auditTextsCard : Claim7 := { stood := { row := auditTextsRow, standIns := [], harness := (true, "9131e18c717af59d1b5fa37c8867ab1f2996b631460448b3a5f79ed1e3a0ad03"), looks := true }, kinds := [], alts := [], laidByText := true, laidKinds := [.data, .data, .data, .data, .pinned], laidTests := true, laidLooks := .later }
def AuditTextsCardSaid : Prop := Claim7.holds Tryz.pinned (.plain (OpenSpec.ofChange auditTextsSpec)) auditTextsCard

/-- THE TIED CARD OF 'stolelaw24.AuditAttrs'. -/
def auditAttrsCard : Claim7 := { stood := { row := auditAttrsRow, standIns := [], harness := (true, "9131e18c717af59d1b5fa37c8867ab1f2996b631460448b3a5f79ed1e3a0ad03"), looks := true }, kinds := [], alts := [], laidByText := true, laidKinds := [.data, .data, .data, .data, .pinned], laidTests := true, laidLooks := .later }
def AuditAttrsCardSaid : Prop := Claim7.holds Tryz.pinned (.plain (OpenSpec.ofChange auditAttrsSpec)) auditAttrsCard

/-- THE TIED CARD OF 'stolelaw24.SchemeRows'. -/
def schemeRowsCard : Claim7 := { stood := { row := schemeRowsRow, standIns := [], harness := (true, "9131e18c717af59d1b5fa37c8867ab1f2996b631460448b3a5f79ed1e3a0ad03"), looks := true }, kinds := [], alts := [], laidByText := true, laidKinds := [.data, .data, .data, .data, .pinned], laidTests := true, laidLooks := .later }
def SchemeRowsCardSaid : Prop := Claim7.holds Tryz.pinned (.plain (OpenSpec.ofChange schemeRowsSpec)) schemeRowsCard

/-- THE TIED CARD OF 'stolelaw24.AuditLong'. -/
def auditLongCard : Claim7 := { stood := { row := auditLongRow, standIns := [], harness := (true, "9131e18c717af59d1b5fa37c8867ab1f2996b631460448b3a5f79ed1e3a0ad03"), looks := true }, kinds := [], alts := [], laidByText := true, laidKinds := [.data, .data, .data, .data, .pinned], laidTests := true, laidLooks := .later }
def AuditLongCardSaid : Prop := Claim7.holds Tryz.pinned (.plain (OpenSpec.ofChange auditLongSpec)) auditLongCard

/-- THE TIED CARD OF 'stolelaw25.ConsoleRuns'. -/
def consoleRunsCard : Claim7 := { stood := { row := consoleRunsRow, standIns := [], harness := (true, "9131e18c717af59d1b5fa37c8867ab1f2996b631460448b3a5f79ed1e3a0ad03"), looks := true }, kinds := [], alts := [], laidByText := true, laidKinds := [.data, .data, .data, .data, .pinned], laidTests := true, laidLooks := .later }
def ConsoleRunsCardSaid : Prop := Claim7.holds Tryz.pinned (.plain (OpenSpec.ofChange consoleRunsSpec)) consoleRunsCard

/-- THE TIED CARD OF 'stolelaw25.ConsoleBegins'. -/
def consoleBeginsCard : Claim7 := { stood := { row := consoleBeginsRow, standIns := [], harness := (true, "9131e18c717af59d1b5fa37c8867ab1f2996b631460448b3a5f79ed1e3a0ad03"), looks := true }, kinds := [], alts := [], laidByText := true, laidKinds := [.data, .data, .data, .data, .pinned], laidTests := true, laidLooks := .later }
def ConsoleBeginsCardSaid : Prop := Claim7.holds Tryz.pinned (.plain (OpenSpec.ofChange consoleBeginsSpec)) consoleBeginsCard

/-- THE TIED CARD OF 'stolelaw25.ConsoleMany'. -/
def consoleManyCard : Claim7 := { stood := { row := consoleManyRow, standIns := [], harness := (true, "9131e18c717af59d1b5fa37c8867ab1f2996b631460448b3a5f79ed1e3a0ad03"), looks := true }, kinds := [], alts := [], laidByText := true, laidKinds := [.data, .data, .data, .data, .pinned], laidTests := true, laidLooks := .later }
def ConsoleManyCardSaid : Prop := Claim7.holds Tryz.pinned (.plain (OpenSpec.ofChange consoleManySpec)) consoleManyCard

/-- THE TIED CARD OF 'stolelaw25.ConsoleForms'. -/
def consoleFormsCard : Claim7 := { stood := { row := consoleFormsRow, standIns := [], harness := (true, "9131e18c717af59d1b5fa37c8867ab1f2996b631460448b3a5f79ed1e3a0ad03"), looks := true }, kinds := [], alts := [], laidByText := true, laidKinds := [.data, .data, .data, .data, .pinned], laidTests := true, laidLooks := .later }
def ConsoleFormsCardSaid : Prop := Claim7.holds Tryz.pinned (.plain (OpenSpec.ofChange consoleFormsSpec)) consoleFormsCard

/-- THE SECOND FORM's CARD OF 'stolelaw5.Tokens'. -/
def tokensUptoCard : Claim7 := { stood := { row := tokensUptoRow, standIns := [], harness := (true, "9131e18c717af59d1b5fa37c8867ab1f2996b631460448b3a5f79ed1e3a0ad03"), looks := true }, kinds := [], alts := [], laidByText := true, laidKinds := [.data, .pinned], laidTests := true, laidLooks := .later }
def TokensUptoCardSaid : Prop := Claim7.holds Tryz.pinned (.plain (OpenSpec.upto tokensSpec)) tokensUptoCard

/-- THE SECOND FORM's CARD OF 'stolelaw5.TokenTags'. -/
def tokenTagsUptoCard : Claim7 := { stood := { row := tokenTagsUptoRow, standIns := [], harness := (true, "9131e18c717af59d1b5fa37c8867ab1f2996b631460448b3a5f79ed1e3a0ad03"), looks := true }, kinds := [], alts := [], laidByText := true, laidKinds := [.data, .pinned], laidTests := true, laidLooks := .later }
def TokenTagsUptoCardSaid : Prop := Claim7.holds Tryz.pinned (.plain (OpenSpec.upto tokenTagsSpec)) tokenTagsUptoCard

/-- THE SECOND FORM's CARD OF 'stolelaw8.Pages'. -/
def pagesUptoCard : Claim7 := { stood := { row := pagesUptoRow, standIns := [], harness := (true, "9131e18c717af59d1b5fa37c8867ab1f2996b631460448b3a5f79ed1e3a0ad03"), looks := true }, kinds := [], alts := [], laidByText := true, laidKinds := [.data, .data, .data, .data, .pinned], laidTests := true, laidLooks := .later }
def PagesUptoCardSaid : Prop := Claim7.holds Tryz.pinned (.plain (OpenSpec.upto pagesSpec)) pagesUptoCard

/-- THE SECOND FORM's CARD OF 'stolelaw8.PageTexts'. -/
def pageTextsUptoCard : Claim7 := { stood := { row := pageTextsUptoRow, standIns := [], harness := (true, "9131e18c717af59d1b5fa37c8867ab1f2996b631460448b3a5f79ed1e3a0ad03"), looks := true }, kinds := [], alts := [], laidByText := true, laidKinds := [.data, .data, .data, .data, .pinned], laidTests := true, laidLooks := .later }
def PageTextsUptoCardSaid : Prop := Claim7.holds Tryz.pinned (.plain (OpenSpec.upto pageTextsSpec)) pageTextsUptoCard

/-- THE SECOND FORM's CARD OF 'stolelaw8.PageForms'. -/
def pageFormsUptoCard : Claim7 := { stood := { row := pageFormsUptoRow, standIns := [], harness := (true, "9131e18c717af59d1b5fa37c8867ab1f2996b631460448b3a5f79ed1e3a0ad03"), looks := true }, kinds := [], alts := [], laidByText := true, laidKinds := [.data, .data, .data, .data, .pinned], laidTests := true, laidLooks := .later }
def PageFormsUptoCardSaid : Prop := Claim7.holds Tryz.pinned (.plain (OpenSpec.upto pageFormsSpec)) pageFormsUptoCard

/-- THE SECOND FORM's CARD OF 'stolelaw8.PageRows'. -/
def pageRowsUptoCard : Claim7 := { stood := { row := pageRowsUptoRow, standIns := [], harness := (true, "9131e18c717af59d1b5fa37c8867ab1f2996b631460448b3a5f79ed1e3a0ad03"), looks := true }, kinds := [], alts := [], laidByText := true, laidKinds := [.data, .data, .data, .data, .pinned], laidTests := true, laidLooks := .later }
def PageRowsUptoCardSaid : Prop := Claim7.holds Tryz.pinned (.plain (OpenSpec.upto pageRowsSpec)) pageRowsUptoCard

/-- THE SECOND FORM's CARD OF 'stolelaw24.Audits'. -/
def auditsUptoCard : Claim7 := { stood := { row := auditsUptoRow, standIns := [], harness := (true, "9131e18c717af59d1b5fa37c8867ab1f2996b631460448b3a5f79ed1e3a0ad03"), looks := true }, kinds := [], alts := [], laidByText := true, laidKinds := [.data, .data, .data, .data, .pinned], laidTests := true, laidLooks := .later }
def AuditsUptoCardSaid : Prop := Claim7.holds Tryz.pinned (.plain (OpenSpec.upto auditsSpec)) auditsUptoCard

/-- THE SECOND FORM's CARD OF 'stolelaw24.AuditTexts'. -/
def auditTextsUptoCard : Claim7 := { stood := { row := auditTextsUptoRow, standIns := [], harness := (true, "9131e18c717af59d1b5fa37c8867ab1f2996b631460448b3a5f79ed1e3a0ad03"), looks := true }, kinds := [], alts := [], laidByText := true, laidKinds := [.data, .data, .data, .data, .pinned], laidTests := true, laidLooks := .later }
def AuditTextsUptoCardSaid : Prop := Claim7.holds Tryz.pinned (.plain (OpenSpec.upto auditTextsSpec)) auditTextsUptoCard

/-- THE SECOND FORM's CARD OF 'stolelaw24.AuditAttrs'. -/
def auditAttrsUptoCard : Claim7 := { stood := { row := auditAttrsUptoRow, standIns := [], harness := (true, "9131e18c717af59d1b5fa37c8867ab1f2996b631460448b3a5f79ed1e3a0ad03"), looks := true }, kinds := [], alts := [], laidByText := true, laidKinds := [.data, .data, .data, .data, .pinned], laidTests := true, laidLooks := .later }
def AuditAttrsUptoCardSaid : Prop := Claim7.holds Tryz.pinned (.plain (OpenSpec.upto auditAttrsSpec)) auditAttrsUptoCard

/-- THE SECOND FORM's CARD OF 'stolelaw24.SchemeRows'. -/
def schemeRowsUptoCard : Claim7 := { stood := { row := schemeRowsUptoRow, standIns := [], harness := (true, "9131e18c717af59d1b5fa37c8867ab1f2996b631460448b3a5f79ed1e3a0ad03"), looks := true }, kinds := [], alts := [], laidByText := true, laidKinds := [.data, .data, .data, .data, .pinned], laidTests := true, laidLooks := .later }
def SchemeRowsUptoCardSaid : Prop := Claim7.holds Tryz.pinned (.plain (OpenSpec.upto schemeRowsSpec)) schemeRowsUptoCard

/-- THE SECOND FORM's CARD OF 'stolelaw24.AuditLong'. -/
def auditLongUptoCard : Claim7 := { stood := { row := auditLongUptoRow, standIns := [], harness := (true, "9131e18c717af59d1b5fa37c8867ab1f2996b631460448b3a5f79ed1e3a0ad03"), looks := true }, kinds := [], alts := [], laidByText := true, laidKinds := [.data, .data, .data, .data, .pinned], laidTests := true, laidLooks := .later }
def AuditLongUptoCardSaid : Prop := Claim7.holds Tryz.pinned (.plain (OpenSpec.upto auditLongSpec)) auditLongUptoCard

/-- THE SECOND FORM's CARD OF 'stolelaw25.ConsoleRuns'. -/
def consoleRunsUptoCard : Claim7 := { stood := { row := consoleRunsUptoRow, standIns := [], harness := (true, "9131e18c717af59d1b5fa37c8867ab1f2996b631460448b3a5f79ed1e3a0ad03"), looks := true }, kinds := [], alts := [], laidByText := true, laidKinds := [.data, .data, .data, .data, .pinned], laidTests := true, laidLooks := .later }
def ConsoleRunsUptoCardSaid : Prop := Claim7.holds Tryz.pinned (.plain (OpenSpec.upto consoleRunsSpec)) consoleRunsUptoCard

/-- THE SECOND FORM's CARD OF 'stolelaw25.ConsoleBegins'. -/
def consoleBeginsUptoCard : Claim7 := { stood := { row := consoleBeginsUptoRow, standIns := [], harness := (true, "9131e18c717af59d1b5fa37c8867ab1f2996b631460448b3a5f79ed1e3a0ad03"), looks := true }, kinds := [], alts := [], laidByText := true, laidKinds := [.data, .data, .data, .data, .pinned], laidTests := true, laidLooks := .later }
def ConsoleBeginsUptoCardSaid : Prop := Claim7.holds Tryz.pinned (.plain (OpenSpec.upto consoleBeginsSpec)) consoleBeginsUptoCard

/-- THE SECOND FORM's CARD OF 'stolelaw25.ConsoleMany'. -/
def consoleManyUptoCard : Claim7 := { stood := { row := consoleManyUptoRow, standIns := [], harness := (true, "9131e18c717af59d1b5fa37c8867ab1f2996b631460448b3a5f79ed1e3a0ad03"), looks := true }, kinds := [], alts := [], laidByText := true, laidKinds := [.data, .data, .data, .data, .pinned], laidTests := true, laidLooks := .later }
def ConsoleManyUptoCardSaid : Prop := Claim7.holds Tryz.pinned (.plain (OpenSpec.upto consoleManySpec)) consoleManyUptoCard

/-- THE SECOND FORM's CARD OF 'stolelaw25.ConsoleForms'. -/
def consoleFormsUptoCard : Claim7 := { stood := { row := consoleFormsUptoRow, standIns := [], harness := (true, "9131e18c717af59d1b5fa37c8867ab1f2996b631460448b3a5f79ed1e3a0ad03"), looks := true }, kinds := [], alts := [], laidByText := true, laidKinds := [.data, .data, .data, .data, .pinned], laidTests := true, laidLooks := .later }
def ConsoleFormsUptoCardSaid : Prop := Claim7.holds Tryz.pinned (.plain (OpenSpec.upto consoleFormsSpec)) consoleFormsUptoCard
end Rows
end Go.Proofs.YtfmcdlbbbmeolaaGreatDoor
