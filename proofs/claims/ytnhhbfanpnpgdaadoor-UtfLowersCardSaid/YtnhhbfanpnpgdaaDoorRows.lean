/-
  NARROWER THAN 'FOR EVERY INPUT', by the rows' own cells (each row's printed sentence says how): Utfs: laid · UtfNorms: laid · UtfLowers: laid · UtfSigns: laid · UtfSpoilt: laid.
  DERIVED. THE GIVEN ROWS OF THIS SEAT. 5 by the template 'for every input the law returns true; each argument reads behind the call as it read before'; 0 by the template 'total and deterministic' (their statements: YtnhhbfanpnpgdaaDoorTotals.lean).
  GIVEN WITH THE SEED: the statements are not yours to turn. If you find one false, say at which input.
  Laid BY PROGRAM, IN A SANDBOX (cutbox-rows.mjs): the forced cells as the released guide's own fill.sh prints them over the translation b29131de3e826a45… (all of the seat's roots in one cut). By AI agents, Wed Nov 11 2026. No macro, syntax, notation, axiom, sorry.
-/
import Derived.Test.YtnhhbfanpnpgdaaDoorChecked
import GoSem.PinnedTables
import GoSem.Claim
import GoSem.ClaimJoined
import GoSem.ClaimMapViews
import Derived.JoinedTies
import Derived.KernelRfl
namespace Go.Proofs.YtnhhbfanpnpgdaaDoor
/- THE CELL 'sum', in the pinned program and in every row, IS THE sha256 OF THE DUMP (.gsa) THAT YtnhhbfanpnpgdaaDoorProg.lean LOADS. Nothing in Lean hashes anything: it is a label: what it is worth is what the hold of that sum in a sandbox is worth. -/
noncomputable def Tryd.pinned : Pinned := { name := "ytnhhbfanpnpgdaadoor", sum := "b29131de3e826a45b18dff65e8f5d0e7d2cd72aaffa364ca50ee3a6f128dcad5", checked := Tryd.checked }
namespace Rows
def none {H : Type} : Left H := { results := [], args := [] }

/- WHAT THE LISTED PACKAGE-LEVEL VARIABLES READ AS WHEN THE CALL BEGINS. Each datum BY PROGRAM (the guide's laid-datum.mjs) off the statement by which the dump's own 'gosem.cut.vars' lays the variable. In a bare row this is a premise. The card (YtnhhbfanpnpgdaaDoorCards.lean) ties it to the program's text. -/
def laid_unicode_utf8_acceptRanges {H : Type} : DataW H := .agg [.agg [.lit (.int .u8 128), .lit (.int .u8 191)], .agg [.lit (.int .u8 160), .lit (.int .u8 191)], .agg [.lit (.int .u8 128), .lit (.int .u8 159)], .agg [.lit (.int .u8 144), .lit (.int .u8 191)], .agg [.lit (.int .u8 128), .lit (.int .u8 143)], .agg [.lit (.int .u8 0), .lit (.int .u8 0)], .agg [.lit (.int .u8 0), .lit (.int .u8 0)], .agg [.lit (.int .u8 0), .lit (.int .u8 0)], .agg [.lit (.int .u8 0), .lit (.int .u8 0)], .agg [.lit (.int .u8 0), .lit (.int .u8 0)], .agg [.lit (.int .u8 0), .lit (.int .u8 0)], .agg [.lit (.int .u8 0), .lit (.int .u8 0)], .agg [.lit (.int .u8 0), .lit (.int .u8 0)], .agg [.lit (.int .u8 0), .lit (.int .u8 0)], .agg [.lit (.int .u8 0), .lit (.int .u8 0)], .agg [.lit (.int .u8 0), .lit (.int .u8 0)]]
/-- One of Go's own tables, pinned by name: the form's constant. -/
def laid_unicode_utf8_first : DataW Unit := Go.Pinned.utf8First

/-- 'stolelaw1.Utfs': WHATEVER THE INPUT: true; the input reads as it did. -/
def utfsSpec : ChangeSpec := { name := "utfs", fn := fun _ => fun
  | [d] => { results := [.lit (.bool true)], args := [d] }
  | _ => none }
def utfsRow : OpenClaim := { program := "ytnhhbfanpnpgdaadoor", sum := "b29131de3e826a45b18dff65e8f5d0e7d2cd72aaffa364ca50ee3a6f128dcad5", func := "stole/stolelaw1.Utfs", spec := "utfs", inPlace := ["internal/abi.NoEscape"], named := ["unicode/utf8.first", "unicode/utf8.acceptRanges"], apart := false, laid := [("unicode/utf8.acceptRanges", laid_unicode_utf8_acceptRanges), ("unicode/utf8.first", laid_unicode_utf8_first)] }
def UtfsSaid : Prop := utfsRow.holds Tryd.pinned (OpenSpec.ofChange utfsSpec)

/-- ITS FALSE NEIGHBOUR: 'it returns false'. Refute it at one input. -/
def utfsWrong : ChangeSpec := { name := "utfs", fn := fun _ => fun
  | [d] => { results := [.lit (.bool false)], args := [d] }
  | _ => none }
def UtfsWrongFalsely : Prop := utfsRow.holds Tryd.pinned (OpenSpec.ofChange utfsWrong)

/-- 'stolelaw1.UtfNorms': WHATEVER THE INPUT: true; the input reads as it did. -/
def utfNormsSpec : ChangeSpec := { name := "utfNorms", fn := fun _ => fun
  | [d1, d2] => { results := [.lit (.bool true)], args := [d1, d2] }
  | _ => none }
def utfNormsRow : OpenClaim := { program := "ytnhhbfanpnpgdaadoor", sum := "b29131de3e826a45b18dff65e8f5d0e7d2cd72aaffa364ca50ee3a6f128dcad5", func := "stole/stolelaw1.UtfNorms", spec := "utfNorms", inPlace := ["internal/abi.NoEscape"], named := ["unicode/utf8.first", "unicode/utf8.acceptRanges"], apart := false, laid := [("unicode/utf8.acceptRanges", laid_unicode_utf8_acceptRanges), ("unicode/utf8.first", laid_unicode_utf8_first)] }
def UtfNormsSaid : Prop := utfNormsRow.holds Tryd.pinned (OpenSpec.ofChange utfNormsSpec)

/-- ITS FALSE NEIGHBOUR: 'it returns false'. Refute it at one input. -/
def utfNormsWrong : ChangeSpec := { name := "utfNorms", fn := fun _ => fun
  | [d1, d2] => { results := [.lit (.bool false)], args := [d1, d2] }
  | _ => none }
def UtfNormsWrongFalsely : Prop := utfNormsRow.holds Tryd.pinned (OpenSpec.ofChange utfNormsWrong)

/-- 'stolelaw1.UtfLowers': WHATEVER THE INPUT: true; the input reads as it did. -/
def utfLowersSpec : ChangeSpec := { name := "utfLowers", fn := fun _ => fun
  | [d1, d2] => { results := [.lit (.bool true)], args := [d1, d2] }
  | _ => none }
def utfLowersRow : OpenClaim := { program := "ytnhhbfanpnpgdaadoor", sum := "b29131de3e826a45b18dff65e8f5d0e7d2cd72aaffa364ca50ee3a6f128dcad5", func := "stole/stolelaw1.UtfLowers", spec := "utfLowers", inPlace := ["internal/abi.NoEscape"], named := ["unicode/utf8.first", "unicode/utf8.acceptRanges"], apart := false, laid := [("unicode/utf8.acceptRanges", laid_unicode_utf8_acceptRanges), ("unicode/utf8.first", laid_unicode_utf8_first)] }
def UtfLowersSaid : Prop := utfLowersRow.holds Tryd.pinned (OpenSpec.ofChange utfLowersSpec)

/-- ITS FALSE NEIGHBOUR: 'it returns false'. Refute it at one input. -/
def utfLowersWrong : ChangeSpec := { name := "utfLowers", fn := fun _ => fun
  | [d1, d2] => { results := [.lit (.bool false)], args := [d1, d2] }
  | _ => none }
def UtfLowersWrongFalsely : Prop := utfLowersRow.holds Tryd.pinned (OpenSpec.ofChange utfLowersWrong)

/-- 'stolelaw1.UtfSigns': WHATEVER THE INPUT: true; the input reads as it did. -/
def utfSignsSpec : ChangeSpec := { name := "utfSigns", fn := fun _ => fun
  | [d] => { results := [.lit (.bool true)], args := [d] }
  | _ => none }
def utfSignsRow : OpenClaim := { program := "ytnhhbfanpnpgdaadoor", sum := "b29131de3e826a45b18dff65e8f5d0e7d2cd72aaffa364ca50ee3a6f128dcad5", func := "stole/stolelaw1.UtfSigns", spec := "utfSigns", inPlace := ["internal/abi.NoEscape"], named := ["unicode/utf8.first", "unicode/utf8.acceptRanges"], apart := false, laid := [("unicode/utf8.acceptRanges", laid_unicode_utf8_acceptRanges), ("unicode/utf8.first", laid_unicode_utf8_first)] }
def UtfSignsSaid : Prop := utfSignsRow.holds Tryd.pinned (OpenSpec.ofChange utfSignsSpec)

/-- ITS FALSE NEIGHBOUR: 'it returns false'. Refute it at one input. -/
def utfSignsWrong : ChangeSpec := { name := "utfSigns", fn := fun _ => fun
  | [d] => { results := [.lit (.bool false)], args := [d] }
  | _ => none }
def UtfSignsWrongFalsely : Prop := utfSignsRow.holds Tryd.pinned (OpenSpec.ofChange utfSignsWrong)

/-- 'stolelaw1.UtfSpoilt': WHATEVER THE INPUT: true; the input reads as it did. -/
def utfSpoiltSpec : ChangeSpec := { name := "utfSpoilt", fn := fun _ => fun
  | [d1, d2] => { results := [.lit (.bool true)], args := [d1, d2] }
  | _ => none }
def utfSpoiltRow : OpenClaim := { program := "ytnhhbfanpnpgdaadoor", sum := "b29131de3e826a45b18dff65e8f5d0e7d2cd72aaffa364ca50ee3a6f128dcad5", func := "stole/stolelaw1.UtfSpoilt", spec := "utfSpoilt", inPlace := ["internal/abi.NoEscape"], named := ["unicode/utf8.first", "unicode/utf8.acceptRanges"], apart := false, laid := [("unicode/utf8.acceptRanges", laid_unicode_utf8_acceptRanges), ("unicode/utf8.first", laid_unicode_utf8_first)] }
def UtfSpoiltSaid : Prop := utfSpoiltRow.holds Tryd.pinned (OpenSpec.ofChange utfSpoiltSpec)

/-- ITS FALSE NEIGHBOUR: 'it returns false'. Refute it at one input. -/
def utfSpoiltWrong : ChangeSpec := { name := "utfSpoilt", fn := fun _ => fun
  | [d1, d2] => { results := [.lit (.bool false)], args := [d1, d2] }
  | _ => none }
def UtfSpoiltWrongFalsely : Prop := utfSpoiltRow.holds Tryd.pinned (OpenSpec.ofChange utfSpoiltWrong)

/- THE SECOND FORM. 'bulk': how many values and letters a reading holds, each counted each time it is reached (what is shared counts as often as it is met; a slice's spare places count too). A statement '..UptoSaid' is the law's where the arguments, and the package variables that the reading takes, are together of bulk at most 1048576: NARROWER than '..Said'. Prove '..Said' where nothing that the law and all that it calls make is longer than what came in: it says more and counts as full. Else prove '..UptoSaid'. A law counts once. -/
mutual
def uptoBulk {H : Type} : DataW H → Nat
  | .lit (.string bytes) => bytes.length + 1
  | .lit _ => 1
  | .nil => 1
  | .ptr d => uptoBulk d + 1
  | .slice elems spare => uptoBulkAll elems + uptoBulkAll spare + 1
  | .agg parts => uptoBulkAll parts + 1
  | .iface _ d => uptoBulk d + 1
  | .map entries => uptoBulkEntries entries + 1
  | .held _ => 1
def uptoBulkAll {H : Type} : List (DataW H) → Nat
  | [] => 0
  | d :: r => uptoBulk d + uptoBulkAll r
def uptoBulkEntries {H : Type} : List (Lit × DataW H) → Nat
  | [] => 0
  | x :: r => uptoBulkEntry x + uptoBulkEntries r
def uptoBulkEntry {H : Type} : Lit × DataW H → Nat
  | (.string bytes, d) => bytes.length + uptoBulk d + 1
  | (_, d) => uptoBulk d + 1
 end
def uptoSmall : (H : Type) → List (DataW H) → Bool := fun _ ds => decide (uptoBulkAll ds ≤ 1048576)
def OpenSpec.upto (s : _root_.Go.ChangeSpec) : _root_.Go.OpenSpec := { _root_.Go.OpenSpec.ofChange s with cond := some uptoSmall }

/-- 'stolelaw1.Utfs', WHERE WHAT IT READS IS OF BULK AT MOST 1048576: true; the input reads as it did. -/
def utfsUptoRow : OpenClaim := { program := "ytnhhbfanpnpgdaadoor", sum := "b29131de3e826a45b18dff65e8f5d0e7d2cd72aaffa364ca50ee3a6f128dcad5", func := "stole/stolelaw1.Utfs", spec := "utfs", inPlace := ["internal/abi.NoEscape"], named := ["unicode/utf8.first", "unicode/utf8.acceptRanges"], apart := false, laid := [("unicode/utf8.acceptRanges", laid_unicode_utf8_acceptRanges), ("unicode/utf8.first", laid_unicode_utf8_first)], narrowed := true }
def UtfsUptoSaid : Prop := utfsUptoRow.holds Tryd.pinned (OpenSpec.upto utfsSpec)

/-- 'stolelaw1.UtfNorms', WHERE WHAT IT READS IS OF BULK AT MOST 1048576: true; the input reads as it did. -/
def utfNormsUptoRow : OpenClaim := { program := "ytnhhbfanpnpgdaadoor", sum := "b29131de3e826a45b18dff65e8f5d0e7d2cd72aaffa364ca50ee3a6f128dcad5", func := "stole/stolelaw1.UtfNorms", spec := "utfNorms", inPlace := ["internal/abi.NoEscape"], named := ["unicode/utf8.first", "unicode/utf8.acceptRanges"], apart := false, laid := [("unicode/utf8.acceptRanges", laid_unicode_utf8_acceptRanges), ("unicode/utf8.first", laid_unicode_utf8_first)], narrowed := true }
def UtfNormsUptoSaid : Prop := utfNormsUptoRow.holds Tryd.pinned (OpenSpec.upto utfNormsSpec)

/-- 'stolelaw1.UtfLowers', WHERE WHAT IT READS IS OF BULK AT MOST 1048576: true; the input reads as it did. -/
def utfLowersUptoRow : OpenClaim := { program := "ytnhhbfanpnpgdaadoor", sum := "b29131de3e826a45b18dff65e8f5d0e7d2cd72aaffa364ca50ee3a6f128dcad5", func := "stole/stolelaw1.UtfLowers", spec := "utfLowers", inPlace := ["internal/abi.NoEscape"], named := ["unicode/utf8.first", "unicode/utf8.acceptRanges"], apart := false, laid := [("unicode/utf8.acceptRanges", laid_unicode_utf8_acceptRanges), ("unicode/utf8.first", laid_unicode_utf8_first)], narrowed := true }
def UtfLowersUptoSaid : Prop := utfLowersUptoRow.holds Tryd.pinned (OpenSpec.upto utfLowersSpec)

/-- 'stolelaw1.UtfSigns', WHERE WHAT IT READS IS OF BULK AT MOST 1048576: true; the input reads as it did. -/
def utfSignsUptoRow : OpenClaim := { program := "ytnhhbfanpnpgdaadoor", sum := "b29131de3e826a45b18dff65e8f5d0e7d2cd72aaffa364ca50ee3a6f128dcad5", func := "stole/stolelaw1.UtfSigns", spec := "utfSigns", inPlace := ["internal/abi.NoEscape"], named := ["unicode/utf8.first", "unicode/utf8.acceptRanges"], apart := false, laid := [("unicode/utf8.acceptRanges", laid_unicode_utf8_acceptRanges), ("unicode/utf8.first", laid_unicode_utf8_first)], narrowed := true }
def UtfSignsUptoSaid : Prop := utfSignsUptoRow.holds Tryd.pinned (OpenSpec.upto utfSignsSpec)

/-- 'stolelaw1.UtfSpoilt', WHERE WHAT IT READS IS OF BULK AT MOST 1048576: true; the input reads as it did. -/
def utfSpoiltUptoRow : OpenClaim := { program := "ytnhhbfanpnpgdaadoor", sum := "b29131de3e826a45b18dff65e8f5d0e7d2cd72aaffa364ca50ee3a6f128dcad5", func := "stole/stolelaw1.UtfSpoilt", spec := "utfSpoilt", inPlace := ["internal/abi.NoEscape"], named := ["unicode/utf8.first", "unicode/utf8.acceptRanges"], apart := false, laid := [("unicode/utf8.acceptRanges", laid_unicode_utf8_acceptRanges), ("unicode/utf8.first", laid_unicode_utf8_first)], narrowed := true }
def UtfSpoiltUptoSaid : Prop := utfSpoiltUptoRow.holds Tryd.pinned (OpenSpec.upto utfSpoiltSpec)

end Rows
end Go.Proofs.YtnhhbfanpnpgdaaDoor
