/-
  DERIVED. GIVEN WITH THE SEED: THE CARDS: each row of YtfncppekjgbedaaGreatDoorRows.lean that lists a variable, with what it lists TIED to the program's text (the seventh form; the later family's looks); each row that meets fmt, with fmt's text TOLD by the authors' own Lean function (tested against real Go, not proved from fmt's source: count such statements apart). THE CARD IS WHAT COUNTS. Prove the row's statement (the work); the ties are given (YtfncppekjgbedaaGreatDoorTie.lean); close each card by the builder's one call (the guide's Derived/Test/ToyasCard.lean, 'card_holds'). Laid BY PROGRAM, IN A SANDBOX (cutbox-door.mjs). By AI agents, Wed Nov 11 2026. No macro, syntax, notation, axiom, sorry.
-/
import Derived.Test.YtfncppekjgbedaaGreatDoorRows
import GoSem.ClaimSeven
namespace Go.Proofs.YtfncppekjgbedaaGreatDoor
namespace Rows

/-- THE TIED CARD OF 'stolelaw9.Urls'. -/
def urlsCard : Claim7 := { stood := { row := urlsRow, standIns := [], harness := (true, "5e1c75d70b78b2966426aef399ff3addb3b17e4fdf98ace819c9c99397468b71"), looks := true }, kinds := [], alts := [], laidByText := true, laidKinds := [.data, .pinned], laidTests := true, laidLooks := .later }
def UrlsCardSaid : Prop := Claim7.holds Tryz.pinned (.plain (OpenSpec.ofChange urlsSpec)) urlsCard

/-- THE SECOND FORM's CARD OF 'stolelaw9.Urls'. -/
def urlsUptoCard : Claim7 := { stood := { row := urlsUptoRow, standIns := [], harness := (true, "5e1c75d70b78b2966426aef399ff3addb3b17e4fdf98ace819c9c99397468b71"), looks := true }, kinds := [], alts := [], laidByText := true, laidKinds := [.data, .pinned], laidTests := true, laidLooks := .later }
def UrlsUptoCardSaid : Prop := Claim7.holds Tryz.pinned (.plain (OpenSpec.upto urlsSpec)) urlsUptoCard
end Rows
end Go.Proofs.YtfncppekjgbedaaGreatDoor
