/-
  DERIVED. GIVEN WITH THE SEED: THE CARDS: each row of YtnhhbfanpnpgdaaDoorRows.lean that lists a variable, with what it lists TIED to the program's text (the seventh form; the later family's looks); each row that meets fmt, with fmt's text TOLD by the authors' own Lean function (tested against real Go, not proved from fmt's source: count such statements apart). THE CARD IS WHAT COUNTS. Prove the row's statement (the work); the ties are given (YtnhhbfanpnpgdaaDoorTie.lean); close each card by the builder's one call (the guide's Derived/Test/ToyasCard.lean, 'card_holds'). Laid BY PROGRAM, IN A SANDBOX (cutbox-door.mjs). By AI agents, Wed Nov 11 2026. No macro, syntax, notation, axiom, sorry.
-/
import Derived.Test.YtnhhbfanpnpgdaaDoorRows
import GoSem.ClaimSeven
namespace Go.Proofs.YtnhhbfanpnpgdaaDoor
namespace Rows

/-- THE TIED CARD OF 'stolelaw1.Utfs'. -/
def utfsCard : Claim7 := { stood := { row := utfsRow, standIns := [], harness := (true, "1248a2d91fcece18740d533d3ce95dc3829d92d04ad835afbe9e14d421251a85"), looks := false }, kinds := [], alts := [], laidByText := true, laidKinds := [.data, .pinned], laidTests := true, laidLooks := .later }
def UtfsCardSaid : Prop := Claim7.holds Tryd.pinned (.plain (OpenSpec.ofChange utfsSpec)) utfsCard

/-- THE TIED CARD OF 'stolelaw1.UtfNorms'. -/
def utfNormsCard : Claim7 := { stood := { row := utfNormsRow, standIns := [], harness := (true, "1248a2d91fcece18740d533d3ce95dc3829d92d04ad835afbe9e14d421251a85"), looks := false }, kinds := [], alts := [], laidByText := true, laidKinds := [.data, .pinned], laidTests := true, laidLooks := .later }
def UtfNormsCardSaid : Prop := Claim7.holds Tryd.pinned (.plain (OpenSpec.ofChange utfNormsSpec)) utfNormsCard

/-- THE TIED CARD OF 'stolelaw1.UtfLowers'. -/
def utfLowersCard : Claim7 := { stood := { row := utfLowersRow, standIns := [], harness := (true, "1248a2d91fcece18740d533d3ce95dc3829d92d04ad835afbe9e14d421251a85"), looks := false }, kinds := [], alts := [], laidByText := true, laidKinds := [.data, .pinned], laidTests := true, laidLooks := .later }
def UtfLowersCardSaid : Prop := Claim7.holds Tryd.pinned (.plain (OpenSpec.ofChange utfLowersSpec)) utfLowersCard

/-- THE TIED CARD OF 'stolelaw1.UtfSigns'. -/
def utfSignsCard : Claim7 := { stood := { row := utfSignsRow, standIns := [], harness := (true, "1248a2d91fcece18740d533d3ce95dc3829d92d04ad835afbe9e14d421251a85"), looks := false }, kinds := [], alts := [], laidByText := true, laidKinds := [.data, .pinned], laidTests := true, laidLooks := .later }
def UtfSignsCardSaid : Prop := Claim7.holds Tryd.pinned (.plain (OpenSpec.ofChange utfSignsSpec)) utfSignsCard

/-- THE TIED CARD OF 'stolelaw1.UtfSpoilt'. -/
def utfSpoiltCard : Claim7 := { stood := { row := utfSpoiltRow, standIns := [], harness := (true, "1248a2d91fcece18740d533d3ce95dc3829d92d04ad835afbe9e14d421251a85"), looks := false }, kinds := [], alts := [], laidByText := true, laidKinds := [.data, .pinned], laidTests := true, laidLooks := .later }
def UtfSpoiltCardSaid : Prop := Claim7.holds Tryd.pinned (.plain (OpenSpec.ofChange utfSpoiltSpec)) utfSpoiltCard

/-- THE SECOND FORM's CARD OF 'stolelaw1.Utfs'. -/
def utfsUptoCard : Claim7 := { stood := { row := utfsUptoRow, standIns := [], harness := (true, "1248a2d91fcece18740d533d3ce95dc3829d92d04ad835afbe9e14d421251a85"), looks := false }, kinds := [], alts := [], laidByText := true, laidKinds := [.data, .pinned], laidTests := true, laidLooks := .later }
def UtfsUptoCardSaid : Prop := Claim7.holds Tryd.pinned (.plain (OpenSpec.upto utfsSpec)) utfsUptoCard

/-- THE SECOND FORM's CARD OF 'stolelaw1.UtfNorms'. -/
def utfNormsUptoCard : Claim7 := { stood := { row := utfNormsUptoRow, standIns := [], harness := (true, "1248a2d91fcece18740d533d3ce95dc3829d92d04ad835afbe9e14d421251a85"), looks := false }, kinds := [], alts := [], laidByText := true, laidKinds := [.data, .pinned], laidTests := true, laidLooks := .later }
def UtfNormsUptoCardSaid : Prop := Claim7.holds Tryd.pinned (.plain (OpenSpec.upto utfNormsSpec)) utfNormsUptoCard

/-- THE SECOND FORM's CARD OF 'stolelaw1.UtfLowers'. -/
def utfLowersUptoCard : Claim7 := { stood := { row := utfLowersUptoRow, standIns := [], harness := (true, "1248a2d91fcece18740d533d3ce95dc3829d92d04ad835afbe9e14d421251a85"), looks := false }, kinds := [], alts := [], laidByText := true, laidKinds := [.data, .pinned], laidTests := true, laidLooks := .later }
def UtfLowersUptoCardSaid : Prop := Claim7.holds Tryd.pinned (.plain (OpenSpec.upto utfLowersSpec)) utfLowersUptoCard

/-- THE SECOND FORM's CARD OF 'stolelaw1.UtfSigns'. -/
def utfSignsUptoCard : Claim7 := { stood := { row := utfSignsUptoRow, standIns := [], harness := (true, "1248a2d91fcece18740d533d3ce95dc3829d92d04ad835afbe9e14d421251a85"), looks := false }, kinds := [], alts := [], laidByText := true, laidKinds := [.data, .pinned], laidTests := true, laidLooks := .later }
def UtfSignsUptoCardSaid : Prop := Claim7.holds Tryd.pinned (.plain (OpenSpec.upto utfSignsSpec)) utfSignsUptoCard

/-- THE SECOND FORM's CARD OF 'stolelaw1.UtfSpoilt'. -/
def utfSpoiltUptoCard : Claim7 := { stood := { row := utfSpoiltUptoRow, standIns := [], harness := (true, "1248a2d91fcece18740d533d3ce95dc3829d92d04ad835afbe9e14d421251a85"), looks := false }, kinds := [], alts := [], laidByText := true, laidKinds := [.data, .pinned], laidTests := true, laidLooks := .later }
def UtfSpoiltUptoCardSaid : Prop := Claim7.holds Tryd.pinned (.plain (OpenSpec.upto utfSpoiltSpec)) utfSpoiltUptoCard
end Rows
end Go.Proofs.YtnhhbfanpnpgdaaDoor
