/-
  DERIVED. GIVEN WITH THE SEED: THE CARDS: each row of YtfabijpafbhdbaaDoorRows.lean that lists a variable, with what it lists TIED to the program's text (the seventh form; the later family's looks); each row that meets fmt, with fmt's text TOLD by the authors' own Lean function (tested against real Go, not proved from fmt's source: count such statements apart). THE CARD IS WHAT COUNTS. Prove the row's statement (the work); the ties are given (YtfabijpafbhdbaaDoorTie.lean); close each card by the builder's one call (the guide's Derived/Test/ToyasCard.lean, 'card_holds'). Laid BY PROGRAM, IN A SANDBOX (cutbox-door.mjs). By AI agents, Wed Nov 11 2026. No macro, syntax, notation, axiom, sorry.
-/
import Derived.Test.YtfabijpafbhdbaaDoorRows
import GoSem.ClaimSeven
namespace Go.Proofs.YtfabijpafbhdbaaDoor
namespace Rows

/-- THE TIED CARD OF 'stolelaw2.Refs'. -/
def refsCard : Claim7 := { stood := { row := refsRow, standIns := [], harness := (true, "513a9089d5d437609f2da3ecc31329c032ccfd0e51f4e47da4719758fabf5a84"), looks := false }, kinds := [], alts := [], laidByText := true, laidKinds := [.data, .pinned], laidTests := true, laidLooks := .later }
def RefsCardSaid : Prop := Claim7.holds Tryd.pinned (.plain (OpenSpec.ofChange refsSpec)) refsCard

/-- THE TIED CARD OF 'stolelaw2.RefBack'. -/
def refBackCard : Claim7 := { stood := { row := refBackRow, standIns := [], harness := (true, "513a9089d5d437609f2da3ecc31329c032ccfd0e51f4e47da4719758fabf5a84"), looks := false }, kinds := [], alts := [], laidByText := true, laidKinds := [.data, .pinned], laidTests := true, laidLooks := .later }
def RefBackCardSaid : Prop := Claim7.holds Tryd.pinned (.plain (OpenSpec.ofChange refBackSpec)) refBackCard

/-- THE TIED CARD OF 'stolelaw2.RefNumbers'. -/
def refNumbersCard : Claim7 := { stood := { row := refNumbersRow, standIns := [], harness := (true, "513a9089d5d437609f2da3ecc31329c032ccfd0e51f4e47da4719758fabf5a84"), looks := false }, kinds := [], alts := [], laidByText := true, laidKinds := [.data, .pinned], laidTests := true, laidLooks := .later }
def RefNumbersCardSaid : Prop := Claim7.holds Tryd.pinned (.plain (OpenSpec.ofChange refNumbersSpec)) refNumbersCard

/-- THE TIED CARD OF 'stolelaw2.RefNames'. -/
def refNamesCard : Claim7 := { stood := { row := refNamesRow, standIns := [], harness := (true, "513a9089d5d437609f2da3ecc31329c032ccfd0e51f4e47da4719758fabf5a84"), looks := false }, kinds := [], alts := [], laidByText := true, laidKinds := [.data, .pinned], laidTests := true, laidLooks := .later }
def RefNamesCardSaid : Prop := Claim7.holds Tryd.pinned (.plain (OpenSpec.ofChange refNamesSpec)) refNamesCard

/-- THE TIED CARD OF 'stolelaw2.RefPlain'. -/
def refPlainCard : Claim7 := { stood := { row := refPlainRow, standIns := [], harness := (true, "513a9089d5d437609f2da3ecc31329c032ccfd0e51f4e47da4719758fabf5a84"), looks := false }, kinds := [], alts := [], laidByText := true, laidKinds := [.data, .pinned], laidTests := true, laidLooks := .later }
def RefPlainCardSaid : Prop := Claim7.holds Tryd.pinned (.plain (OpenSpec.ofChange refPlainSpec)) refPlainCard

/-- THE TIED CARD OF 'stolelaw2.RefSafe'. -/
def refSafeCard : Claim7 := { stood := { row := refSafeRow, standIns := [], harness := (true, "513a9089d5d437609f2da3ecc31329c032ccfd0e51f4e47da4719758fabf5a84"), looks := false }, kinds := [], alts := [], laidByText := true, laidKinds := [.data, .pinned], laidTests := true, laidLooks := .later }
def RefSafeCardSaid : Prop := Claim7.holds Tryd.pinned (.plain (OpenSpec.ofChange refSafeSpec)) refSafeCard

/-- THE SECOND FORM's CARD OF 'stolelaw2.Refs'. -/
def refsUptoCard : Claim7 := { stood := { row := refsUptoRow, standIns := [], harness := (true, "513a9089d5d437609f2da3ecc31329c032ccfd0e51f4e47da4719758fabf5a84"), looks := false }, kinds := [], alts := [], laidByText := true, laidKinds := [.data, .pinned], laidTests := true, laidLooks := .later }
def RefsUptoCardSaid : Prop := Claim7.holds Tryd.pinned (.plain (OpenSpec.upto refsSpec)) refsUptoCard

/-- THE SECOND FORM's CARD OF 'stolelaw2.RefBack'. -/
def refBackUptoCard : Claim7 := { stood := { row := refBackUptoRow, standIns := [], harness := (true, "513a9089d5d437609f2da3ecc31329c032ccfd0e51f4e47da4719758fabf5a84"), looks := false }, kinds := [], alts := [], laidByText := true, laidKinds := [.data, .pinned], laidTests := true, laidLooks := .later }
def RefBackUptoCardSaid : Prop := Claim7.holds Tryd.pinned (.plain (OpenSpec.upto refBackSpec)) refBackUptoCard

/-- THE SECOND FORM's CARD OF 'stolelaw2.RefNumbers'. -/
def refNumbersUptoCard : Claim7 := { stood := { row := refNumbersUptoRow, standIns := [], harness := (true, "513a9089d5d437609f2da3ecc31329c032ccfd0e51f4e47da4719758fabf5a84"), looks := false }, kinds := [], alts := [], laidByText := true, laidKinds := [.data, .pinned], laidTests := true, laidLooks := .later }
def RefNumbersUptoCardSaid : Prop := Claim7.holds Tryd.pinned (.plain (OpenSpec.upto refNumbersSpec)) refNumbersUptoCard

/-- THE SECOND FORM's CARD OF 'stolelaw2.RefNames'. -/
def refNamesUptoCard : Claim7 := { stood := { row := refNamesUptoRow, standIns := [], harness := (true, "513a9089d5d437609f2da3ecc31329c032ccfd0e51f4e47da4719758fabf5a84"), looks := false }, kinds := [], alts := [], laidByText := true, laidKinds := [.data, .pinned], laidTests := true, laidLooks := .later }
def RefNamesUptoCardSaid : Prop := Claim7.holds Tryd.pinned (.plain (OpenSpec.upto refNamesSpec)) refNamesUptoCard

/-- THE SECOND FORM's CARD OF 'stolelaw2.RefPlain'. -/
def refPlainUptoCard : Claim7 := { stood := { row := refPlainUptoRow, standIns := [], harness := (true, "513a9089d5d437609f2da3ecc31329c032ccfd0e51f4e47da4719758fabf5a84"), looks := false }, kinds := [], alts := [], laidByText := true, laidKinds := [.data, .pinned], laidTests := true, laidLooks := .later }
def RefPlainUptoCardSaid : Prop := Claim7.holds Tryd.pinned (.plain (OpenSpec.upto refPlainSpec)) refPlainUptoCard

/-- THE SECOND FORM's CARD OF 'stolelaw2.RefSafe'. -/
def refSafeUptoCard : Claim7 := { stood := { row := refSafeUptoRow, standIns := [], harness := (true, "513a9089d5d437609f2da3ecc31329c032ccfd0e51f4e47da4719758fabf5a84"), looks := false }, kinds := [], alts := [], laidByText := true, laidKinds := [.data, .pinned], laidTests := true, laidLooks := .later }
def RefSafeUptoCardSaid : Prop := Claim7.holds Tryd.pinned (.plain (OpenSpec.upto refSafeSpec)) refSafeUptoCard
end Rows
end Go.Proofs.YtfabijpafbhdbaaDoor
