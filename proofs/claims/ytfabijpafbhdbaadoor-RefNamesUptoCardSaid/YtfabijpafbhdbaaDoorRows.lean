/-
  NARROWER THAN 'FOR EVERY INPUT', by the rows' own cells (each row's printed sentence says how): Refs: laid · RefBack: laid · RefNumbers: laid · RefNames: laid · RefPlain: laid · RefSafe: laid.
  DERIVED. THE GIVEN ROWS OF THIS SEAT. 6 by the template 'for every input the law returns true; each argument reads behind the call as it read before'; 0 by the template 'total and deterministic' (their statements: YtfabijpafbhdbaaDoorTotals.lean).
  GIVEN WITH THE SEED: the statements are not yours to turn. If you find one false, say at which input.
  Laid BY PROGRAM, IN A SANDBOX (cutbox-rows.mjs): the forced cells as the released guide's own fill.sh prints them over the translation c286ab70a08624af… (all of the seat's roots in one cut). By AI agents, Wed Nov 11 2026. No macro, syntax, notation, axiom, sorry.
-/
import Derived.Test.YtfabijpafbhdbaaDoorChecked
import GoSem.PinnedTables
import GoSem.Claim
import GoSem.ClaimJoined
import GoSem.ClaimMapViews
import Derived.JoinedTies
import Derived.KernelRfl
namespace Go.Proofs.YtfabijpafbhdbaaDoor
/- THE CELL 'sum', in the pinned program and in every row, IS THE sha256 OF THE DUMP (.gsa) THAT YtfabijpafbhdbaaDoorProg.lean LOADS. Nothing in Lean hashes anything: it is a label: what it is worth is what the hold of that sum in a sandbox is worth. -/
noncomputable def Tryd.pinned : Pinned := { name := "ytfabijpafbhdbaadoor", sum := "c286ab70a08624afff2c37dd15377c65fcd8a7181179fd6bfe4f8d4f93eaf4e7", checked := Tryd.checked }
namespace Rows
def none {H : Type} : Left H := { results := [], args := [] }

/- WHAT THE LISTED PACKAGE-LEVEL VARIABLES READ AS WHEN THE CALL BEGINS. Each datum BY PROGRAM (the guide's laid-datum.mjs) off the statement by which the dump's own 'gosem.cut.vars' lays the variable. In a bare row this is a premise. The card (YtfabijpafbhdbaaDoorCards.lean) ties it to the program's text. -/
def laid_unicode_utf8_acceptRanges {H : Type} : DataW H := .agg [.agg [.lit (.int .u8 128), .lit (.int .u8 191)], .agg [.lit (.int .u8 160), .lit (.int .u8 191)], .agg [.lit (.int .u8 128), .lit (.int .u8 159)], .agg [.lit (.int .u8 144), .lit (.int .u8 191)], .agg [.lit (.int .u8 128), .lit (.int .u8 143)], .agg [.lit (.int .u8 0), .lit (.int .u8 0)], .agg [.lit (.int .u8 0), .lit (.int .u8 0)], .agg [.lit (.int .u8 0), .lit (.int .u8 0)], .agg [.lit (.int .u8 0), .lit (.int .u8 0)], .agg [.lit (.int .u8 0), .lit (.int .u8 0)], .agg [.lit (.int .u8 0), .lit (.int .u8 0)], .agg [.lit (.int .u8 0), .lit (.int .u8 0)], .agg [.lit (.int .u8 0), .lit (.int .u8 0)], .agg [.lit (.int .u8 0), .lit (.int .u8 0)], .agg [.lit (.int .u8 0), .lit (.int .u8 0)], .agg [.lit (.int .u8 0), .lit (.int .u8 0)]]
/-- One of Go's own tables, pinned by name: the form's constant. -/
def laid_unicode_utf8_first : DataW Unit := Go.Pinned.utf8First

/-- 'stolelaw2.Refs': WHATEVER THE INPUT: true; the input reads as it did. -/
def refsSpec : ChangeSpec := { name := "refs", fn := fun _ => fun
  | [d] => { results := [.lit (.bool true)], args := [d] }
  | _ => none }
def refsRow : OpenClaim := { program := "ytfabijpafbhdbaadoor", sum := "c286ab70a08624afff2c37dd15377c65fcd8a7181179fd6bfe4f8d4f93eaf4e7", func := "stole/stolelaw2.Refs", spec := "refs", inPlace := ["internal/abi.NoEscape", "internal/bytealg.IndexByteString"], named := ["unicode/utf8.first", "unicode/utf8.acceptRanges"], apart := false, laid := [("unicode/utf8.acceptRanges", laid_unicode_utf8_acceptRanges), ("unicode/utf8.first", laid_unicode_utf8_first)] }
def RefsSaid : Prop := refsRow.holds Tryd.pinned (OpenSpec.ofChange refsSpec)

/-- ITS FALSE NEIGHBOUR: 'it returns false'. Refute it at one input. -/
def refsWrong : ChangeSpec := { name := "refs", fn := fun _ => fun
  | [d] => { results := [.lit (.bool false)], args := [d] }
  | _ => none }
def RefsWrongFalsely : Prop := refsRow.holds Tryd.pinned (OpenSpec.ofChange refsWrong)

/-- 'stolelaw2.RefBack': WHATEVER THE INPUT: true; the input reads as it did. -/
def refBackSpec : ChangeSpec := { name := "refBack", fn := fun _ => fun
  | [d1, d2] => { results := [.lit (.bool true)], args := [d1, d2] }
  | _ => none }
def refBackRow : OpenClaim := { program := "ytfabijpafbhdbaadoor", sum := "c286ab70a08624afff2c37dd15377c65fcd8a7181179fd6bfe4f8d4f93eaf4e7", func := "stole/stolelaw2.RefBack", spec := "refBack", inPlace := ["internal/abi.NoEscape", "internal/bytealg.IndexByteString"], named := ["unicode/utf8.first", "unicode/utf8.acceptRanges"], apart := false, laid := [("unicode/utf8.acceptRanges", laid_unicode_utf8_acceptRanges), ("unicode/utf8.first", laid_unicode_utf8_first)] }
def RefBackSaid : Prop := refBackRow.holds Tryd.pinned (OpenSpec.ofChange refBackSpec)

/-- ITS FALSE NEIGHBOUR: 'it returns false'. Refute it at one input. -/
def refBackWrong : ChangeSpec := { name := "refBack", fn := fun _ => fun
  | [d1, d2] => { results := [.lit (.bool false)], args := [d1, d2] }
  | _ => none }
def RefBackWrongFalsely : Prop := refBackRow.holds Tryd.pinned (OpenSpec.ofChange refBackWrong)

/-- 'stolelaw2.RefNumbers': WHATEVER THE INPUT: true; the input reads as it did. -/
def refNumbersSpec : ChangeSpec := { name := "refNumbers", fn := fun _ => fun
  | [d1, d2] => { results := [.lit (.bool true)], args := [d1, d2] }
  | _ => none }
def refNumbersRow : OpenClaim := { program := "ytfabijpafbhdbaadoor", sum := "c286ab70a08624afff2c37dd15377c65fcd8a7181179fd6bfe4f8d4f93eaf4e7", func := "stole/stolelaw2.RefNumbers", spec := "refNumbers", inPlace := ["internal/abi.NoEscape", "internal/bytealg.IndexByteString"], named := ["unicode/utf8.first", "unicode/utf8.acceptRanges"], apart := false, laid := [("unicode/utf8.acceptRanges", laid_unicode_utf8_acceptRanges), ("unicode/utf8.first", laid_unicode_utf8_first)] }
def RefNumbersSaid : Prop := refNumbersRow.holds Tryd.pinned (OpenSpec.ofChange refNumbersSpec)

/-- ITS FALSE NEIGHBOUR: 'it returns false'. Refute it at one input. -/
def refNumbersWrong : ChangeSpec := { name := "refNumbers", fn := fun _ => fun
  | [d1, d2] => { results := [.lit (.bool false)], args := [d1, d2] }
  | _ => none }
def RefNumbersWrongFalsely : Prop := refNumbersRow.holds Tryd.pinned (OpenSpec.ofChange refNumbersWrong)

/-- 'stolelaw2.RefNames': WHATEVER THE INPUT: true; the input reads as it did. -/
def refNamesSpec : ChangeSpec := { name := "refNames", fn := fun _ => fun
  | [d1, d2] => { results := [.lit (.bool true)], args := [d1, d2] }
  | _ => none }
def refNamesRow : OpenClaim := { program := "ytfabijpafbhdbaadoor", sum := "c286ab70a08624afff2c37dd15377c65fcd8a7181179fd6bfe4f8d4f93eaf4e7", func := "stole/stolelaw2.RefNames", spec := "refNames", inPlace := ["internal/abi.NoEscape", "internal/bytealg.IndexByteString"], named := ["unicode/utf8.first", "unicode/utf8.acceptRanges"], apart := false, laid := [("unicode/utf8.acceptRanges", laid_unicode_utf8_acceptRanges), ("unicode/utf8.first", laid_unicode_utf8_first)] }
def RefNamesSaid : Prop := refNamesRow.holds Tryd.pinned (OpenSpec.ofChange refNamesSpec)

/-- ITS FALSE NEIGHBOUR: 'it returns false'. Refute it at one input. -/
def refNamesWrong : ChangeSpec := { name := "refNames", fn := fun _ => fun
  | [d1, d2] => { results := [.lit (.bool false)], args := [d1, d2] }
  | _ => none }
def RefNamesWrongFalsely : Prop := refNamesRow.holds Tryd.pinned (OpenSpec.ofChange refNamesWrong)

/-- 'stolelaw2.RefPlain': WHATEVER THE INPUT: true; the input reads as it did. -/
def refPlainSpec : ChangeSpec := { name := "refPlain", fn := fun _ => fun
  | [d] => { results := [.lit (.bool true)], args := [d] }
  | _ => none }
def refPlainRow : OpenClaim := { program := "ytfabijpafbhdbaadoor", sum := "c286ab70a08624afff2c37dd15377c65fcd8a7181179fd6bfe4f8d4f93eaf4e7", func := "stole/stolelaw2.RefPlain", spec := "refPlain", inPlace := ["internal/abi.NoEscape", "internal/bytealg.IndexByteString"], named := ["unicode/utf8.first", "unicode/utf8.acceptRanges"], apart := false, laid := [("unicode/utf8.acceptRanges", laid_unicode_utf8_acceptRanges), ("unicode/utf8.first", laid_unicode_utf8_first)] }
def RefPlainSaid : Prop := refPlainRow.holds Tryd.pinned (OpenSpec.ofChange refPlainSpec)

/-- ITS FALSE NEIGHBOUR: 'it returns false'. Refute it at one input. -/
def refPlainWrong : ChangeSpec := { name := "refPlain", fn := fun _ => fun
  | [d] => { results := [.lit (.bool false)], args := [d] }
  | _ => none }
def RefPlainWrongFalsely : Prop := refPlainRow.holds Tryd.pinned (OpenSpec.ofChange refPlainWrong)

/-- 'stolelaw2.RefSafe': WHATEVER THE INPUT: true; the input reads as it did. -/
def refSafeSpec : ChangeSpec := { name := "refSafe", fn := fun _ => fun
  | [d1, d2] => { results := [.lit (.bool true)], args := [d1, d2] }
  | _ => none }
def refSafeRow : OpenClaim := { program := "ytfabijpafbhdbaadoor", sum := "c286ab70a08624afff2c37dd15377c65fcd8a7181179fd6bfe4f8d4f93eaf4e7", func := "stole/stolelaw2.RefSafe", spec := "refSafe", inPlace := ["internal/abi.NoEscape", "internal/bytealg.IndexByteString"], named := ["unicode/utf8.first", "unicode/utf8.acceptRanges"], apart := false, laid := [("unicode/utf8.acceptRanges", laid_unicode_utf8_acceptRanges), ("unicode/utf8.first", laid_unicode_utf8_first)] }
def RefSafeSaid : Prop := refSafeRow.holds Tryd.pinned (OpenSpec.ofChange refSafeSpec)

/-- ITS FALSE NEIGHBOUR: 'it returns false'. Refute it at one input. -/
def refSafeWrong : ChangeSpec := { name := "refSafe", fn := fun _ => fun
  | [d1, d2] => { results := [.lit (.bool false)], args := [d1, d2] }
  | _ => none }
def RefSafeWrongFalsely : Prop := refSafeRow.holds Tryd.pinned (OpenSpec.ofChange refSafeWrong)

/- THE SECOND FORM. 'bulk': how many values and letters a reading holds, each counted each time it is reached (what is shared counts as often as it is met; a slice's spare places count too). A statement '..UptoSaid' is the law's where the arguments, and the package variables that the reading takes, are together of bulk at most 1048576: NARROWER than '..Said'. Prove '..Said' where nothing that the law and all that it calls make is longer than what came in: it says more and counts as full. Else prove '..UptoSaid'. A law counts once. -/
mutual
def uptoBulk {H : Type} : DataW H → Nat
  | .lit (.string bytes) => bytes.length + 1
  | .lit _ => 1
  | .nil => 1
  | .ptr d => uptoBulk d + 1
  | .slice elems spare => uptoBulkAll elems + uptoBulkAll spare + 1
  | .agg parts => uptoBulkAll parts + 1
  | .iface _ d => uptoBulk d + 1
  | .map entries => uptoBulkEntries entries + 1
  | .held _ => 1
def uptoBulkAll {H : Type} : List (DataW H) → Nat
  | [] => 0
  | d :: r => uptoBulk d + uptoBulkAll r
def uptoBulkEntries {H : Type} : List (Lit × DataW H) → Nat
  | [] => 0
  | x :: r => uptoBulkEntry x + uptoBulkEntries r
def uptoBulkEntry {H : Type} : Lit × DataW H → Nat
  | (.string bytes, d) => bytes.length + uptoBulk d + 1
  | (_, d) => uptoBulk d + 1
 end
def uptoSmall : (H : Type) → List (DataW H) → Bool := fun _ ds => decide (uptoBulkAll ds ≤ 1048576)
def OpenSpec.upto (s : _root_.Go.ChangeSpec) : _root_.Go.OpenSpec := { _root_.Go.OpenSpec.ofChange s with cond := some uptoSmall }

/-- 'stolelaw2.Refs', WHERE WHAT IT READS IS OF BULK AT MOST 1048576: true; the input reads as it did. -/
def refsUptoRow : OpenClaim := { program := "ytfabijpafbhdbaadoor", sum := "c286ab70a08624afff2c37dd15377c65fcd8a7181179fd6bfe4f8d4f93eaf4e7", func := "stole/stolelaw2.Refs", spec := "refs", inPlace := ["internal/abi.NoEscape", "internal/bytealg.IndexByteString"], named := ["unicode/utf8.first", "unicode/utf8.acceptRanges"], apart := false, laid := [("unicode/utf8.acceptRanges", laid_unicode_utf8_acceptRanges), ("unicode/utf8.first", laid_unicode_utf8_first)], narrowed := true }
def RefsUptoSaid : Prop := refsUptoRow.holds Tryd.pinned (OpenSpec.upto refsSpec)

/-- 'stolelaw2.RefBack', WHERE WHAT IT READS IS OF BULK AT MOST 1048576: true; the input reads as it did. -/
def refBackUptoRow : OpenClaim := { program := "ytfabijpafbhdbaadoor", sum := "c286ab70a08624afff2c37dd15377c65fcd8a7181179fd6bfe4f8d4f93eaf4e7", func := "stole/stolelaw2.RefBack", spec := "refBack", inPlace := ["internal/abi.NoEscape", "internal/bytealg.IndexByteString"], named := ["unicode/utf8.first", "unicode/utf8.acceptRanges"], apart := false, laid := [("unicode/utf8.acceptRanges", laid_unicode_utf8_acceptRanges), ("unicode/utf8.first", laid_unicode_utf8_first)], narrowed := true }
def RefBackUptoSaid : Prop := refBackUptoRow.holds Tryd.pinned (OpenSpec.upto refBackSpec)

/-- 'stolelaw2.RefNumbers', WHERE WHAT IT READS IS OF BULK AT MOST 1048576: true; the input reads as it did. -/
def refNumbersUptoRow : OpenClaim := { program := "ytfabijpafbhdbaadoor", sum := "c286ab70a08624afff2c37dd15377c65fcd8a7181179fd6bfe4f8d4f93eaf4e7", func := "stole/stolelaw2.RefNumbers", spec := "refNumbers", inPlace := ["internal/abi.NoEscape", "internal/bytealg.IndexByteString"], named := ["unicode/utf8.first", "unicode/utf8.acceptRanges"], apart := false, laid := [("unicode/utf8.acceptRanges", laid_unicode_utf8_acceptRanges), ("unicode/utf8.first", laid_unicode_utf8_first)], narrowed := true }
def RefNumbersUptoSaid : Prop := refNumbersUptoRow.holds Tryd.pinned (OpenSpec.upto refNumbersSpec)

/-- 'stolelaw2.RefNames', WHERE WHAT IT READS IS OF BULK AT MOST 1048576: true; the input reads as it did. -/
def refNamesUptoRow : OpenClaim := { program := "ytfabijpafbhdbaadoor", sum := "c286ab70a08624afff2c37dd15377c65fcd8a7181179fd6bfe4f8d4f93eaf4e7", func := "stole/stolelaw2.RefNames", spec := "refNames", inPlace := ["internal/abi.NoEscape", "internal/bytealg.IndexByteString"], named := ["unicode/utf8.first", "unicode/utf8.acceptRanges"], apart := false, laid := [("unicode/utf8.acceptRanges", laid_unicode_utf8_acceptRanges), ("unicode/utf8.first", laid_unicode_utf8_first)], narrowed := true }
def RefNamesUptoSaid : Prop := refNamesUptoRow.holds Tryd.pinned (OpenSpec.upto refNamesSpec)

/-- 'stolelaw2.RefPlain', WHERE WHAT IT READS IS OF BULK AT MOST 1048576: true; the input reads as it did. -/
def refPlainUptoRow : OpenClaim := { program := "ytfabijpafbhdbaadoor", sum := "c286ab70a08624afff2c37dd15377c65fcd8a7181179fd6bfe4f8d4f93eaf4e7", func := "stole/stolelaw2.RefPlain", spec := "refPlain", inPlace := ["internal/abi.NoEscape", "internal/bytealg.IndexByteString"], named := ["unicode/utf8.first", "unicode/utf8.acceptRanges"], apart := false, laid := [("unicode/utf8.acceptRanges", laid_unicode_utf8_acceptRanges), ("unicode/utf8.first", laid_unicode_utf8_first)], narrowed := true }
def RefPlainUptoSaid : Prop := refPlainUptoRow.holds Tryd.pinned (OpenSpec.upto refPlainSpec)

/-- 'stolelaw2.RefSafe', WHERE WHAT IT READS IS OF BULK AT MOST 1048576: true; the input reads as it did. -/
def refSafeUptoRow : OpenClaim := { program := "ytfabijpafbhdbaadoor", sum := "c286ab70a08624afff2c37dd15377c65fcd8a7181179fd6bfe4f8d4f93eaf4e7", func := "stole/stolelaw2.RefSafe", spec := "refSafe", inPlace := ["internal/abi.NoEscape", "internal/bytealg.IndexByteString"], named := ["unicode/utf8.first", "unicode/utf8.acceptRanges"], apart := false, laid := [("unicode/utf8.acceptRanges", laid_unicode_utf8_acceptRanges), ("unicode/utf8.first", laid_unicode_utf8_first)], narrowed := true }
def RefSafeUptoSaid : Prop := refSafeUptoRow.holds Tryd.pinned (OpenSpec.upto refSafeSpec)

end Rows
end Go.Proofs.YtfabijpafbhdbaaDoor
