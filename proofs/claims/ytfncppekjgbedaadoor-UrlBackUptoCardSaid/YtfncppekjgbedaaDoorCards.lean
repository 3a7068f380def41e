/-
  DERIVED. GIVEN WITH THE SEED: THE CARDS: each row of YtfncppekjgbedaaDoorRows.lean that lists a variable, with what it lists TIED to the program's text (the seventh form; the later family's looks); each row that meets fmt, with fmt's text TOLD by the authors' own Lean function (tested against real Go, not proved from fmt's source: count such statements apart). THE CARD IS WHAT COUNTS. Prove the row's statement (the work); the ties are given (YtfncppekjgbedaaDoorTie.lean); close each card by the builder's one call (the guide's Derived/Test/ToyasCard.lean, 'card_holds'). Laid BY PROGRAM, IN A SANDBOX (cutbox-door.mjs). By AI agents, Wed Nov 11 2026. No macro, syntax, notation, axiom, sorry.
-/
import Derived.Test.YtfncppekjgbedaaDoorRows
import GoSem.ClaimSeven
namespace Go.Proofs.YtfncppekjgbedaaDoor
namespace Rows

/-- THE TIED CARD OF 'stolelaw9.UrlSafe'. -/
def urlSafeCard : Claim7 := { stood := { row := urlSafeRow, standIns := [], harness := (true, "ca8e7f6203b0fdf87a852390b296b3f830149034d43da37b1f3c4d7b852b0511"), looks := true }, kinds := [], alts := [], laidByText := true, laidKinds := [.data, .pinned], laidTests := true, laidLooks := .later }
def UrlSafeCardSaid : Prop := Claim7.holds Tryd.pinned (.plain (OpenSpec.ofChange urlSafeSpec)) urlSafeCard

/-- THE TIED CARD OF 'stolelaw9.UrlBack'. -/
def urlBackCard : Claim7 := { stood := { row := urlBackRow, standIns := [], harness := (true, "ca8e7f6203b0fdf87a852390b296b3f830149034d43da37b1f3c4d7b852b0511"), looks := true }, kinds := [], alts := [], laidByText := true, laidKinds := [.data, .pinned], laidTests := true, laidLooks := .later }
def UrlBackCardSaid : Prop := Claim7.holds Tryd.pinned (.plain (OpenSpec.ofChange urlBackSpec)) urlBackCard

/-- THE TIED CARD OF 'stolelaw9.UrlSchemes'. -/
def urlSchemesCard : Claim7 := { stood := { row := urlSchemesRow, standIns := [], harness := (true, "ca8e7f6203b0fdf87a852390b296b3f830149034d43da37b1f3c4d7b852b0511"), looks := true }, kinds := [], alts := [], laidByText := true, laidKinds := [.data, .pinned], laidTests := true, laidLooks := .later }
def UrlSchemesCardSaid : Prop := Claim7.holds Tryd.pinned (.plain (OpenSpec.ofChange urlSchemesSpec)) urlSchemesCard

/-- THE TIED CARD OF 'stolelaw9.UrlPlain'. -/
def urlPlainCard : Claim7 := { stood := { row := urlPlainRow, standIns := [], harness := (true, "ca8e7f6203b0fdf87a852390b296b3f830149034d43da37b1f3c4d7b852b0511"), looks := true }, kinds := [], alts := [], laidByText := true, laidKinds := [.data, .pinned], laidTests := true, laidLooks := .later }
def UrlPlainCardSaid : Prop := Claim7.holds Tryd.pinned (.plain (OpenSpec.ofChange urlPlainSpec)) urlPlainCard

/-- THE TIED CARD OF 'stolelaw9.UrlTwice'. -/
def urlTwiceCard : Claim7 := { stood := { row := urlTwiceRow, standIns := [], harness := (true, "ca8e7f6203b0fdf87a852390b296b3f830149034d43da37b1f3c4d7b852b0511"), looks := true }, kinds := [], alts := [], laidByText := true, laidKinds := [.data, .pinned], laidTests := true, laidLooks := .later }
def UrlTwiceCardSaid : Prop := Claim7.holds Tryd.pinned (.plain (OpenSpec.ofChange urlTwiceSpec)) urlTwiceCard

/-- THE SECOND FORM's CARD OF 'stolelaw9.UrlSafe'. -/
def urlSafeUptoCard : Claim7 := { stood := { row := urlSafeUptoRow, standIns := [], harness := (true, "ca8e7f6203b0fdf87a852390b296b3f830149034d43da37b1f3c4d7b852b0511"), looks := true }, kinds := [], alts := [], laidByText := true, laidKinds := [.data, .pinned], laidTests := true, laidLooks := .later }
def UrlSafeUptoCardSaid : Prop := Claim7.holds Tryd.pinned (.plain (OpenSpec.upto urlSafeSpec)) urlSafeUptoCard

/-- THE SECOND FORM's CARD OF 'stolelaw9.UrlBack'. -/
def urlBackUptoCard : Claim7 := { stood := { row := urlBackUptoRow, standIns := [], harness := (true, "ca8e7f6203b0fdf87a852390b296b3f830149034d43da37b1f3c4d7b852b0511"), looks := true }, kinds := [], alts := [], laidByText := true, laidKinds := [.data, .pinned], laidTests := true, laidLooks := .later }
def UrlBackUptoCardSaid : Prop := Claim7.holds Tryd.pinned (.plain (OpenSpec.upto urlBackSpec)) urlBackUptoCard

/-- THE SECOND FORM's CARD OF 'stolelaw9.UrlSchemes'. -/
def urlSchemesUptoCard : Claim7 := { stood := { row := urlSchemesUptoRow, standIns := [], harness := (true, "ca8e7f6203b0fdf87a852390b296b3f830149034d43da37b1f3c4d7b852b0511"), looks := true }, kinds := [], alts := [], laidByText := true, laidKinds := [.data, .pinned], laidTests := true, laidLooks := .later }
def UrlSchemesUptoCardSaid : Prop := Claim7.holds Tryd.pinned (.plain (OpenSpec.upto urlSchemesSpec)) urlSchemesUptoCard

/-- THE SECOND FORM's CARD OF 'stolelaw9.UrlPlain'. -/
def urlPlainUptoCard : Claim7 := { stood := { row := urlPlainUptoRow, standIns := [], harness := (true, "ca8e7f6203b0fdf87a852390b296b3f830149034d43da37b1f3c4d7b852b0511"), looks := true }, kinds := [], alts := [], laidByText := true, laidKinds := [.data, .pinned], laidTests := true, laidLooks := .later }
def UrlPlainUptoCardSaid : Prop := Claim7.holds Tryd.pinned (.plain (OpenSpec.upto urlPlainSpec)) urlPlainUptoCard

/-- THE SECOND FORM's CARD OF 'stolelaw9.UrlTwice'. -/
def urlTwiceUptoCard : Claim7 := { stood := { row := urlTwiceUptoRow, standIns := [], harness := (true, "ca8e7f6203b0fdf87a852390b296b3f830149034d43da37b1f3c4d7b852b0511"), looks := true }, kinds := [], alts := [], laidByText := true, laidKinds := [.data, .pinned], laidTests := true, laidLooks := .later }
def UrlTwiceUptoCardSaid : Prop := Claim7.holds Tryd.pinned (.plain (OpenSpec.upto urlTwiceSpec)) urlTwiceUptoCard
end Rows
end Go.Proofs.YtfncppekjgbedaaDoor
