/- The law stole/stolelaw5.TokenHeld returns true at every input of its types, and its arguments read behind the call as before. The listed package-level variables are tied to the program's text. No further condition. TokenHeld, plain. Laid by xprint.py, a program of this session over the kit's print: for each Go function one Lean function of the same answers, and the walk that shows it. Laid by xprint.py, a program of this session over the kit's print: for each Go function one Lean function of the same answers, and the walk that shows it. -/
import Derived.Test.YtgbaakopneldaaaDoorQ0
import Derived.Test.YtgbaakopneldaaaDoorQ1
import Derived.Test.YtgbaakopneldaaaDoorQ13
import Derived.Test.YtgbaakopneldaaaDoorQ15
import Derived.Test.YtgbaakopneldaaaDoorQ16
import Derived.KernelRfl
import Derived.Test.YtgbaakopneldaaaDoorCards
import Derived.Test.YtgbaakopneldaaaDoorTie
import Derived.WalkKit
import Derived.ProofKit
import Derived.OpenShut
import Derived.ShutString
import Derived.ChangeOld
import Derived.Below
import Derived.SizedLaws
import Derived.Deep.DeepHandedRow
import Derived.LaidMore
import Derived.Lay
import Derived.SevenTiedAt
section
namespace Go.Proofs.YtgbaakopneldaaaDoor.XK
end Go.Proofs.YtgbaakopneldaaaDoor.XK
end
section
namespace Go.Proofs.YtgbaakopneldaaaDoor.XL
open Go.RowKit Go.Proofs.YtgbaakopneldaaaDoor.ExtM Go.Proofs.YtgbaakopneldaaaDoor.XK Go.Proofs.YtgbaakopneldaaaDoorW.PrintWords Go.Proofs.YtgbaakopneldaaaDoorW.PrintLast Go.Proofs.YtgbaakopneldaaaDoorW.PrintMore
open Go.Proofs.YtgbaakopneldaaaDoor.Ext (T F)
attribute [local go_sem] max2_int min2_int max_two min_two max_three min_three max_four min_four   -- for this text's walks alone
set_option linter.unusedVariables false
set_option linter.unusedSimpArgs false
/-! ### stolelaw5_TokenHeld: function 4 -/
def stolelaw5_TokenHeld.f (k : Nat) (a0 : Int) (a1 : ByteArray) (a2 : ByteArray) : Option (Bool) := (stolelaw5_awake.f k).bind fun t164 => (if t164 = true then ((some (([(⟨#[115, 99, 114, 105, 112, 116]⟩ : ByteArray), (⟨#[115, 116, 121, 108, 101]⟩ : ByteArray), (⟨#[116, 105, 116, 108, 101]⟩ : ByteArray), (⟨#[116, 101, 120, 116, 97, 114, 101, 97]⟩ : ByteArray)] : List ByteArray) : List ByteArray)).bind fun y165 => ((stolelaw5_quiet.f k a1 0).bind fun t168 => (if t168.size + 5 ≤ 9223372036854775807 then (if 0 ≤ (Int.tmod (wrap64 ((wrap64 (Int.tmod (IntKind.u64.wrap (a0)) 4)) + 1)) 4) then (if (Int.tmod (wrap64 ((wrap64 (Int.tmod (IntKind.u64.wrap (a0)) 4)) + 1)) 4) < (y165.length : Int) then (if t168.size + 5 + ((rdOf ByteArray.empty y165 (Int.tmod (wrap64 ((wrap64 (Int.tmod (IntKind.u64.wrap (a0)) 4)) + 1)) 4)).size) ≤ 9223372036854775807 then (if t168.size + 5 + ((rdOf ByteArray.empty y165 (Int.tmod (wrap64 ((wrap64 (Int.tmod (IntKind.u64.wrap (a0)) 4)) + 1)) 4)).size) + 3 ≤ 9223372036854775807 then (if 0 ≤ (wrap64 (Int.tmod (IntKind.u64.wrap (a0)) 4)) then (if (wrap64 (Int.tmod (IntKind.u64.wrap (a0)) 4)) < (y165.length : Int) then (if 1 ≤ ((rdOf ByteArray.empty y165 (wrap64 (Int.tmod (IntKind.u64.wrap (a0)) 4))).size : Int) then (if t168.size + 5 + ((rdOf ByteArray.empty y165 (Int.tmod (wrap64 ((wrap64 (Int.tmod (IntKind.u64.wrap (a0)) 4)) + 1)) 4)).size) + 3 + ((rdOf ByteArray.empty y165 (wrap64 (Int.tmod (IntKind.u64.wrap (a0)) 4))).extract 1 (rdOf ByteArray.empty y165 (wrap64 (Int.tmod (IntKind.u64.wrap (a0)) 4))).size).size ≤ 9223372036854775807 then (if t168.size + 5 + ((rdOf ByteArray.empty y165 (Int.tmod (wrap64 ((wrap64 (Int.tmod (IntKind.u64.wrap (a0)) 4)) + 1)) 4)).size) + 3 + ((rdOf ByteArray.empty y165 (wrap64 (Int.tmod (IntKind.u64.wrap (a0)) 4))).extract 1 (rdOf ByteArray.empty y165 (wrap64 (Int.tmod (IntKind.u64.wrap (a0)) 4))).size).size + 1 ≤ 9223372036854775807 then ((stolelaw5_quiet.f k a2 0).bind fun t171 => (if t168.size + 5 + ((rdOf ByteArray.empty y165 (Int.tmod (wrap64 ((wrap64 (Int.tmod (IntKind.u64.wrap (a0)) 4)) + 1)) 4)).size) + 3 + ((rdOf ByteArray.empty y165 (wrap64 (Int.tmod (IntKind.u64.wrap (a0)) 4))).extract 1 (rdOf ByteArray.empty y165 (wrap64 (Int.tmod (IntKind.u64.wrap (a0)) 4))).size).size + 1 + t171.size ≤ 9223372036854775807 then (if t168.size + 5 + ((rdOf ByteArray.empty y165 (Int.tmod (wrap64 ((wrap64 (Int.tmod (IntKind.u64.wrap (a0)) 4)) + 1)) 4)).size) + 3 + ((rdOf ByteArray.empty y165 (wrap64 (Int.tmod (IntKind.u64.wrap (a0)) 4))).extract 1 (rdOf ByteArray.empty y165 (wrap64 (Int.tmod (IntKind.u64.wrap (a0)) 4))).size).size + 1 + t171.size + 1 ≤ 9223372036854775807 then (if 1 + (rdOf ByteArray.empty y165 (wrap64 (Int.tmod (IntKind.u64.wrap (a0)) 4))).size ≤ 9223372036854775807 then (if 1 + (rdOf ByteArray.empty y165 (wrap64 (Int.tmod (IntKind.u64.wrap (a0)) 4))).size + 1 ≤ 9223372036854775807 then (if 1 + (rdOf ByteArray.empty y165 (wrap64 (Int.tmod (IntKind.u64.wrap (a0)) 4))).size + 1 + (t168.size + 5 + ((rdOf ByteArray.empty y165 (Int.tmod (wrap64 ((wrap64 (Int.tmod (IntKind.u64.wrap (a0)) 4)) + 1)) 4)).size) + 3 + ((rdOf ByteArray.empty y165 (wrap64 (Int.tmod (IntKind.u64.wrap (a0)) 4))).extract 1 (rdOf ByteArray.empty y165 (wrap64 (Int.tmod (IntKind.u64.wrap (a0)) 4))).size).size + 1 + t171.size + 1) ≤ 9223372036854775807 then (if 1 + (rdOf ByteArray.empty y165 (wrap64 (Int.tmod (IntKind.u64.wrap (a0)) 4))).size + 1 + (t168.size + 5 + ((rdOf ByteArray.empty y165 (Int.tmod (wrap64 ((wrap64 (Int.tmod (IntKind.u64.wrap (a0)) 4)) + 1)) 4)).size) + 3 + ((rdOf ByteArray.empty y165 (wrap64 (Int.tmod (IntKind.u64.wrap (a0)) 4))).extract 1 (rdOf ByteArray.empty y165 (wrap64 (Int.tmod (IntKind.u64.wrap (a0)) 4))).size).size + 1 + t171.size + 1) + 2 ≤ 9223372036854775807 then (if 1 + (rdOf ByteArray.empty y165 (wrap64 (Int.tmod (IntKind.u64.wrap (a0)) 4))).size + 1 + (t168.size + 5 + ((rdOf ByteArray.empty y165 (Int.tmod (wrap64 ((wrap64 (Int.tmod (IntKind.u64.wrap (a0)) 4)) + 1)) 4)).size) + 3 + ((rdOf ByteArray.empty y165 (wrap64 (Int.tmod (IntKind.u64.wrap (a0)) 4))).extract 1 (rdOf ByteArray.empty y165 (wrap64 (Int.tmod (IntKind.u64.wrap (a0)) 4))).size).size + 1 + t171.size + 1) + 2 + (rdOf ByteArray.empty y165 (wrap64 (Int.tmod (IntKind.u64.wrap (a0)) 4))).size ≤ 9223372036854775807 then (if 1 + (rdOf ByteArray.empty y165 (wrap64 (Int.tmod (IntKind.u64.wrap (a0)) 4))).size + 1 + (t168.size + 5 + ((rdOf ByteArray.empty y165 (Int.tmod (wrap64 ((wrap64 (Int.tmod (IntKind.u64.wrap (a0)) 4)) + 1)) 4)).size) + 3 + ((rdOf ByteArray.empty y165 (wrap64 (Int.tmod (IntKind.u64.wrap (a0)) 4))).extract 1 (rdOf ByteArray.empty y165 (wrap64 (Int.tmod (IntKind.u64.wrap (a0)) 4))).size).size + 1 + t171.size + 1) + 2 + (rdOf ByteArray.empty y165 (wrap64 (Int.tmod (IntKind.u64.wrap (a0)) 4))).size + 4 ≤ 9223372036854775807 then ((tok_Tokens.f (((((((⟨#[60]⟩ : ByteArray) ++ (rdOf ByteArray.empty y165 (wrap64 (Int.tmod (IntKind.u64.wrap (a0)) 4)))) ++ (⟨#[62]⟩ : ByteArray)) ++ (((((((t168 ++ (⟨#[60, 112, 62, 60, 47]⟩ : ByteArray)) ++ (rdOf ByteArray.empty y165 (Int.tmod (wrap64 ((wrap64 (Int.tmod (IntKind.u64.wrap (a0)) 4)) + 1)) 4))) ++ (⟨#[62, 60, 47]⟩ : ByteArray)) ++ ((rdOf ByteArray.empty y165 (wrap64 (Int.tmod (IntKind.u64.wrap (a0)) 4))).extract 1 (rdOf ByteArray.empty y165 (wrap64 (Int.tmod (IntKind.u64.wrap (a0)) 4))).size)) ++ (⟨#[62]⟩ : ByteArray)) ++ t171) ++ (⟨#[60]⟩ : ByteArray))) ++ (⟨#[60, 47]⟩ : ByteArray)) ++ (rdOf ByteArray.empty y165 (wrap64 (Int.tmod (IntKind.u64.wrap (a0)) 4)))) ++ (⟨#[32, 120, 62, 121]⟩ : ByteArray))).bind fun bt174 => ((stolelaw0_Num.f bt174.2).bind fun t183 => (if t183 = 0 then ((stolelaw0_SameTokens.f bt174.1 (([(⟨1, rdOf ByteArray.empty y165 (wrap64 (Int.tmod (IntKind.u64.wrap (a0)) 4)), (⟨#[]⟩ : ByteArray), ([] : List (S47)), false⟩ : S30), (⟨0, (⟨#[]⟩ : ByteArray), ((((((t168 ++ (⟨#[60, 112, 62, 60, 47]⟩ : ByteArray)) ++ (rdOf ByteArray.empty y165 (Int.tmod (wrap64 ((wrap64 (Int.tmod (IntKind.u64.wrap (a0)) 4)) + 1)) 4))) ++ (⟨#[62, 60, 47]⟩ : ByteArray)) ++ ((rdOf ByteArray.empty y165 (wrap64 (Int.tmod (IntKind.u64.wrap (a0)) 4))).extract 1 (rdOf ByteArray.empty y165 (wrap64 (Int.tmod (IntKind.u64.wrap (a0)) 4))).size)) ++ (⟨#[62]⟩ : ByteArray)) ++ t171) ++ (⟨#[60]⟩ : ByteArray), ([] : List (S47)), false⟩ : S30), (⟨2, rdOf ByteArray.empty y165 (wrap64 (Int.tmod (IntKind.u64.wrap (a0)) 4)), (⟨#[]⟩ : ByteArray), ([] : List (S47)), false⟩ : S30), (⟨0, (⟨#[]⟩ : ByteArray), (⟨#[121]⟩ : ByteArray), ([] : List (S47)), false⟩ : S30)] : List (S30)))).bind fun t184 => (some t184)) else (some false)))) else (none)) else (none)) else (none)) else (none)) else (none)) else (none)) else (none)) else (none))) else (none)) else (none)) else (none)) else (none)) else (none)) else (none)) else (none)) else (none)) else (none)) else (none)))) else (some false))
theorem stolelaw5_TokenHeld.mono : ∀ a0 a1 a2 k, LeO (stolelaw5_TokenHeld.f k a0 a1 a2) (stolelaw5_TokenHeld.f (k + 1) a0 a1 a2) := by
 intro a0 a1 a2 k
 unfold stolelaw5_TokenHeld.f
 repeat' first
   | (with_reducible exact stolelaw5_awake.mono _)
   | (with_reducible exact stolelaw5_quiet.mono _ _ _)
   | (with_reducible exact LeO.refl _)
   | (with_reducible exact LeO.none _)
   | (with_reducible refine LeO.ite ?_ ?_)
   | (with_reducible refine LeO.bind ?_ (fun _ => ?_))
   | exact stolelaw5_awake.mono _
   | exact stolelaw5_quiet.mono _ _ _
   | exact LeO.none _
   | refine LeO.ite ?_ ?_
   | refine LeO.bind ?_ (fun _ => ?_)
def stolelaw5_TokenHeld.T5 : Bool × List (List Nat × List Nat) := (true, [([], []), ([0], [0]), ([1], [1]), ([], []), ([], []), ([4], [4]), ([5], [5]), ([3, 6], [3, 6]), ([7], [7]), ([2, 8], [2, 8]), ([9], [9]), ([], []), ([], []), ([11, 12], [11, 12]), ([13], [13]), ([14], [14]), ([10, 15], [10, 15]), ([16], [16]), ([], []), ([18, 1], [18]), ([17, 19], [17, 19]), ([20], [20]), ([21, 19, 0, 1, 2, 3, 4, 5, 6, 7, 8, 9, 10, 11, 12, 13, 14, 15, 16, 17, 18, 19, 20, 21], [21])])
def stolelaw5_TokenHeld.B5 : List Nat := [0, 1, 3, 0, 0, 16, 48, 120, 248, 511, 1023, 0, 0, 6144, 14336, 30720, 65535, 131071, 0, 262147, 1048575, 2097151, 4194303]
theorem stolelaw5_TokenHeld.tab5 : rtab .any (opsOf Tryd.f4 5) = stolelaw5_TokenHeld.T5 := by kernel_rfl
theorem stolelaw5_TokenHeld.bits5 : waitsOk stolelaw5_TokenHeld.T5.2 stolelaw5_TokenHeld.B5 = true := by kernel_rfl
def stolelaw5_TokenHeld.T6 : Bool × List (List Nat × List Nat) := (true, [([], []), ([], []), ([0, 1], [0, 1]), ([2], [2]), ([3], [3]), ([4], [4]), ([], []), ([5, 6], [5, 6]), ([7], [7]), ([], []), ([], []), ([9, 10], [9, 10]), ([11], [11]), ([8, 12], [8, 12]), ([13], [13]), ([14], [14]), ([15], [15]), ([16], [16]), ([16], [16]), ([17, 15, 0, 1, 2, 3, 4, 5, 6, 7, 8, 9, 10, 11, 12, 13, 14, 15, 16, 17], [17]), ([18, 19, 0, 1, 2, 3, 4, 5, 6, 7, 8, 9, 10, 11, 12, 13, 14, 15, 16, 17, 18, 19], [18])])
def stolelaw5_TokenHeld.B6 : List Nat := [0, 0, 3, 7, 15, 31, 0, 127, 255, 0, 0, 1536, 3584, 8191, 16383, 32767, 65535, 131071, 131071, 262143, 1048575]
theorem stolelaw5_TokenHeld.tab6 : rtab .any (opsOf Tryd.f4 6) = stolelaw5_TokenHeld.T6 := by kernel_rfl
theorem stolelaw5_TokenHeld.bits6 : waitsOk stolelaw5_TokenHeld.T6.2 stolelaw5_TokenHeld.B6 = true := by kernel_rfl
def stolelaw5_TokenHeld.T7 : Bool × List (List Nat × List Nat) := (true, [([], []), ([], []), ([0, 1], [0, 1]), ([2], [2]), ([3], [3]), ([], []), ([5], [5]), ([], []), ([], []), ([7, 8], [7, 8]), ([9], [9]), ([10], [10]), ([], []), ([4, 6, 11, 12], [4, 6, 11, 12]), ([13, 0, 1, 2, 3, 4, 5, 6, 7, 8, 9, 10, 11, 12, 13], [13])])
def stolelaw5_TokenHeld.B7 : List Nat := [0, 0, 3, 7, 15, 0, 32, 0, 0, 384, 896, 1920, 0, 8191, 16383]
theorem stolelaw5_TokenHeld.tab7 : rtab .any (opsOf Tryd.f4 7) = stolelaw5_TokenHeld.T7 := by kernel_rfl
theorem stolelaw5_TokenHeld.bits7 : waitsOk stolelaw5_TokenHeld.T7.2 stolelaw5_TokenHeld.B7 = true := by kernel_rfl
set_option maxHeartbeats 8000000 in
set_option maxRecDepth 100000 in
theorem stolelaw5_TokenHeld.calls (k : Nat) (a0 : Int) (a1 : ByteArray) (a2 : ByteArray) (r : Bool) (w : World) (hT : Tabs w) (h : stolelaw5_TokenHeld.f k a0 a1 a2 = some r) (hr : r = true) :
  Calls Tryd.prog 4 #[.int .i64 a0, .string a1, .string a2] w fun e w' => e = .returned (.bool r) ∧ Below w.heap.size w w' := by
 have hu30 := Tryd.underlying30
 have HT := Aside0.mk hT
 clear hT
 have HB := Aside0.mk (Below.refl w.heap.size w)
 have H : ((stolelaw5_awake.f k).bind fun t164 => (if t164 = true then ((some (([(⟨#[115, 99, 114, 105, 112, 116]⟩ : ByteArray), (⟨#[115, 116, 121, 108, 101]⟩ : ByteArray), (⟨#[116, 105, 116, 108, 101]⟩ : ByteArray), (⟨#[116, 101, 120, 116, 97, 114, 101, 97]⟩ : ByteArray)] : List ByteArray) : List ByteArray)).bind fun y165 => ((stolelaw5_quiet.f k a1 0).bind fun t168 => (if t168.size + 5 ≤ 9223372036854775807 then (if 0 ≤ (Int.tmod (wrap64 ((wrap64 (Int.tmod (IntKind.u64.wrap (a0)) 4)) + 1)) 4) then (if (Int.tmod (wrap64 ((wrap64 (Int.tmod (IntKind.u64.wrap (a0)) 4)) + 1)) 4) < (y165.length : Int) then (if t168.size + 5 + ((rdOf ByteArray.empty y165 (Int.tmod (wrap64 ((wrap64 (Int.tmod (IntKind.u64.wrap (a0)) 4)) + 1)) 4)).size) ≤ 9223372036854775807 then (if t168.size + 5 + ((rdOf ByteArray.empty y165 (Int.tmod (wrap64 ((wrap64 (Int.tmod (IntKind.u64.wrap (a0)) 4)) + 1)) 4)).size) + 3 ≤ 9223372036854775807 then (if 0 ≤ (wrap64 (Int.tmod (IntKind.u64.wrap (a0)) 4)) then (if (wrap64 (Int.tmod (IntKind.u64.wrap (a0)) 4)) < (y165.length : Int) then (if 1 ≤ ((rdOf ByteArray.empty y165 (wrap64 (Int.tmod (IntKind.u64.wrap (a0)) 4))).size : Int) then (if t168.size + 5 + ((rdOf ByteArray.empty y165 (Int.tmod (wrap64 ((wrap64 (Int.tmod (IntKind.u64.wrap (a0)) 4)) + 1)) 4)).size) + 3 + ((rdOf ByteArray.empty y165 (wrap64 (Int.tmod (IntKind.u64.wrap (a0)) 4))).extract 1 (rdOf ByteArray.empty y165 (wrap64 (Int.tmod (IntKind.u64.wrap (a0)) 4))).size).size ≤ 9223372036854775807 then (if t168.size + 5 + ((rdOf ByteArray.empty y165 (Int.tmod (wrap64 ((wrap64 (Int.tmod (IntKind.u64.wrap (a0)) 4)) + 1)) 4)).size) + 3 + ((rdOf ByteArray.empty y165 (wrap64 (Int.tmod (IntKind.u64.wrap (a0)) 4))).extract 1 (rdOf ByteArray.empty y165 (wrap64 (Int.tmod (IntKind.u64.wrap (a0)) 4))).size).size + 1 ≤ 9223372036854775807 then ((stolelaw5_quiet.f k a2 0).bind fun t171 => (if t168.size + 5 + ((rdOf ByteArray.empty y165 (Int.tmod (wrap64 ((wrap64 (Int.tmod (IntKind.u64.wrap (a0)) 4)) + 1)) 4)).size) + 3 + ((rdOf ByteArray.empty y165 (wrap64 (Int.tmod (IntKind.u64.wrap (a0)) 4))).extract 1 (rdOf ByteArray.empty y165 (wrap64 (Int.tmod (IntKind.u64.wrap (a0)) 4))).size).size + 1 + t171.size ≤ 9223372036854775807 then (if t168.size + 5 + ((rdOf ByteArray.empty y165 (Int.tmod (wrap64 ((wrap64 (Int.tmod (IntKind.u64.wrap (a0)) 4)) + 1)) 4)).size) + 3 + ((rdOf ByteArray.empty y165 (wrap64 (Int.tmod (IntKind.u64.wrap (a0)) 4))).extract 1 (rdOf ByteArray.empty y165 (wrap64 (Int.tmod (IntKind.u64.wrap (a0)) 4))).size).size + 1 + t171.size + 1 ≤ 9223372036854775807 then (if 1 + (rdOf ByteArray.empty y165 (wrap64 (Int.tmod (IntKind.u64.wrap (a0)) 4))).size ≤ 9223372036854775807 then (if 1 + (rdOf ByteArray.empty y165 (wrap64 (Int.tmod (IntKind.u64.wrap (a0)) 4))).size + 1 ≤ 9223372036854775807 then (if 1 + (rdOf ByteArray.empty y165 (wrap64 (Int.tmod (IntKind.u64.wrap (a0)) 4))).size + 1 + (t168.size + 5 + ((rdOf ByteArray.empty y165 (Int.tmod (wrap64 ((wrap64 (Int.tmod (IntKind.u64.wrap (a0)) 4)) + 1)) 4)).size) + 3 + ((rdOf ByteArray.empty y165 (wrap64 (Int.tmod (IntKind.u64.wrap (a0)) 4))).extract 1 (rdOf ByteArray.empty y165 (wrap64 (Int.tmod (IntKind.u64.wrap (a0)) 4))).size).size + 1 + t171.size + 1) ≤ 9223372036854775807 then (if 1 + (rdOf ByteArray.empty y165 (wrap64 (Int.tmod (IntKind.u64.wrap (a0)) 4))).size + 1 + (t168.size + 5 + ((rdOf ByteArray.empty y165 (Int.tmod (wrap64 ((wrap64 (Int.tmod (IntKind.u64.wrap (a0)) 4)) + 1)) 4)).size) + 3 + ((rdOf ByteArray.empty y165 (wrap64 (Int.tmod (IntKind.u64.wrap (a0)) 4))).extract 1 (rdOf ByteArray.empty y165 (wrap64 (Int.tmod (IntKind.u64.wrap (a0)) 4))).size).size + 1 + t171.size + 1) + 2 ≤ 9223372036854775807 then (if 1 + (rdOf ByteArray.empty y165 (wrap64 (Int.tmod (IntKind.u64.wrap (a0)) 4))).size + 1 + (t168.size + 5 + ((rdOf ByteArray.empty y165 (Int.tmod (wrap64 ((wrap64 (Int.tmod (IntKind.u64.wrap (a0)) 4)) + 1)) 4)).size) + 3 + ((rdOf ByteArray.empty y165 (wrap64 (Int.tmod (IntKind.u64.wrap (a0)) 4))).extract 1 (rdOf ByteArray.empty y165 (wrap64 (Int.tmod (IntKind.u64.wrap (a0)) 4))).size).size + 1 + t171.size + 1) + 2 + (rdOf ByteArray.empty y165 (wrap64 (Int.tmod (IntKind.u64.wrap (a0)) 4))).size ≤ 9223372036854775807 then (if 1 + (rdOf ByteArray.empty y165 (wrap64 (Int.tmod (IntKind.u64.wrap (a0)) 4))).size + 1 + (t168.size + 5 + ((rdOf ByteArray.empty y165 (Int.tmod (wrap64 ((wrap64 (Int.tmod (IntKind.u64.wrap (a0)) 4)) + 1)) 4)).size) + 3 + ((rdOf ByteArray.empty y165 (wrap64 (Int.tmod (IntKind.u64.wrap (a0)) 4))).extract 1 (rdOf ByteArray.empty y165 (wrap64 (Int.tmod (IntKind.u64.wrap (a0)) 4))).size).size + 1 + t171.size + 1) + 2 + (rdOf ByteArray.empty y165 (wrap64 (Int.tmod (IntKind.u64.wrap (a0)) 4))).size + 4 ≤ 9223372036854775807 then ((tok_Tokens.f (((((((⟨#[60]⟩ : ByteArray) ++ (rdOf ByteArray.empty y165 (wrap64 (Int.tmod (IntKind.u64.wrap (a0)) 4)))) ++ (⟨#[62]⟩ : ByteArray)) ++ (((((((t168 ++ (⟨#[60, 112, 62, 60, 47]⟩ : ByteArray)) ++ (rdOf ByteArray.empty y165 (Int.tmod (wrap64 ((wrap64 (Int.tmod (IntKind.u64.wrap (a0)) 4)) + 1)) 4))) ++ (⟨#[62, 60, 47]⟩ : ByteArray)) ++ ((rdOf ByteArray.empty y165 (wrap64 (Int.tmod (IntKind.u64.wrap (a0)) 4))).extract 1 (rdOf ByteArray.empty y165 (wrap64 (Int.tmod (IntKind.u64.wrap (a0)) 4))).size)) ++ (⟨#[62]⟩ : ByteArray)) ++ t171) ++ (⟨#[60]⟩ : ByteArray))) ++ (⟨#[60, 47]⟩ : ByteArray)) ++ (rdOf ByteArray.empty y165 (wrap64 (Int.tmod (IntKind.u64.wrap (a0)) 4)))) ++ (⟨#[32, 120, 62, 121]⟩ : ByteArray))).bind fun bt174 => ((stolelaw0_Num.f bt174.2).bind fun t183 => (if t183 = 0 then ((stolelaw0_SameTokens.f bt174.1 (([(⟨1, rdOf ByteArray.empty y165 (wrap64 (Int.tmod (IntKind.u64.wrap (a0)) 4)), (⟨#[]⟩ : ByteArray), ([] : List (S47)), false⟩ : S30), (⟨0, (⟨#[]⟩ : ByteArray), ((((((t168 ++ (⟨#[60, 112, 62, 60, 47]⟩ : ByteArray)) ++ (rdOf ByteArray.empty y165 (Int.tmod (wrap64 ((wrap64 (Int.tmod (IntKind.u64.wrap (a0)) 4)) + 1)) 4))) ++ (⟨#[62, 60, 47]⟩ : ByteArray)) ++ ((rdOf ByteArray.empty y165 (wrap64 (Int.tmod (IntKind.u64.wrap (a0)) 4))).extract 1 (rdOf ByteArray.empty y165 (wrap64 (Int.tmod (IntKind.u64.wrap (a0)) 4))).size)) ++ (⟨#[62]⟩ : ByteArray)) ++ t171) ++ (⟨#[60]⟩ : ByteArray), ([] : List (S47)), false⟩ : S30), (⟨2, rdOf ByteArray.empty y165 (wrap64 (Int.tmod (IntKind.u64.wrap (a0)) 4)), (⟨#[]⟩ : ByteArray), ([] : List (S47)), false⟩ : S30), (⟨0, (⟨#[]⟩ : ByteArray), (⟨#[121]⟩ : ByteArray), ([] : List (S47)), false⟩ : S30)] : List (S30)))).bind fun t184 => (some t184)) else (some false)))) else (none)) else (none)) else (none)) else (none)) else (none)) else (none)) else (none)) else (none))) else (none)) else (none)) else (none)) else (none)) else (none)) else (none)) else (none)) else (none)) else (none)) else (none)))) else (some false))) = some r := h
 clear h
 replace H := Option.bind_eq_some_iff.mp H
 obtain ⟨t164, A40, H⟩ := H
 replace H : (if t164 = true then ((some (([(⟨#[115, 99, 114, 105, 112, 116]⟩ : ByteArray), (⟨#[115, 116, 121, 108, 101]⟩ : ByteArray), (⟨#[116, 105, 116, 108, 101]⟩ : ByteArray), (⟨#[116, 101, 120, 116, 97, 114, 101, 97]⟩ : ByteArray)] : List ByteArray) : List ByteArray)).bind fun y165 => ((stolelaw5_quiet.f k a1 0).bind fun t168 => (if t168.size + 5 ≤ 9223372036854775807 then (if 0 ≤ (Int.tmod (wrap64 ((wrap64 (Int.tmod (IntKind.u64.wrap (a0)) 4)) + 1)) 4) then (if (Int.tmod (wrap64 ((wrap64 (Int.tmod (IntKind.u64.wrap (a0)) 4)) + 1)) 4) < (y165.length : Int) then (if t168.size + 5 + ((rdOf ByteArray.empty y165 (Int.tmod (wrap64 ((wrap64 (Int.tmod (IntKind.u64.wrap (a0)) 4)) + 1)) 4)).size) ≤ 9223372036854775807 then (if t168.size + 5 + ((rdOf ByteArray.empty y165 (Int.tmod (wrap64 ((wrap64 (Int.tmod (IntKind.u64.wrap (a0)) 4)) + 1)) 4)).size) + 3 ≤ 9223372036854775807 then (if 0 ≤ (wrap64 (Int.tmod (IntKind.u64.wrap (a0)) 4)) then (if (wrap64 (Int.tmod (IntKind.u64.wrap (a0)) 4)) < (y165.length : Int) then (if 1 ≤ ((rdOf ByteArray.empty y165 (wrap64 (Int.tmod (IntKind.u64.wrap (a0)) 4))).size : Int) then (if t168.size + 5 + ((rdOf ByteArray.empty y165 (Int.tmod (wrap64 ((wrap64 (Int.tmod (IntKind.u64.wrap (a0)) 4)) + 1)) 4)).size) + 3 + ((rdOf ByteArray.empty y165 (wrap64 (Int.tmod (IntKind.u64.wrap (a0)) 4))).extract 1 (rdOf ByteArray.empty y165 (wrap64 (Int.tmod (IntKind.u64.wrap (a0)) 4))).size).size ≤ 9223372036854775807 then (if t168.size + 5 + ((rdOf ByteArray.empty y165 (Int.tmod (wrap64 ((wrap64 (Int.tmod (IntKind.u64.wrap (a0)) 4)) + 1)) 4)).size) + 3 + ((rdOf ByteArray.empty y165 (wrap64 (Int.tmod (IntKind.u64.wrap (a0)) 4))).extract 1 (rdOf ByteArray.empty y165 (wrap64 (Int.tmod (IntKind.u64.wrap (a0)) 4))).size).size + 1 ≤ 9223372036854775807 then ((stolelaw5_quiet.f k a2 0).bind fun t171 => (if t168.size + 5 + ((rdOf ByteArray.empty y165 (Int.tmod (wrap64 ((wrap64 (Int.tmod (IntKind.u64.wrap (a0)) 4)) + 1)) 4)).size) + 3 + ((rdOf ByteArray.empty y165 (wrap64 (Int.tmod (IntKind.u64.wrap (a0)) 4))).extract 1 (rdOf ByteArray.empty y165 (wrap64 (Int.tmod (IntKind.u64.wrap (a0)) 4))).size).size + 1 + t171.size ≤ 9223372036854775807 then (if t168.size + 5 + ((rdOf ByteArray.empty y165 (Int.tmod (wrap64 ((wrap64 (Int.tmod (IntKind.u64.wrap (a0)) 4)) + 1)) 4)).size) + 3 + ((rdOf ByteArray.empty y165 (wrap64 (Int.tmod (IntKind.u64.wrap (a0)) 4))).extract 1 (rdOf ByteArray.empty y165 (wrap64 (Int.tmod (IntKind.u64.wrap (a0)) 4))).size).size + 1 + t171.size + 1 ≤ 9223372036854775807 then (if 1 + (rdOf ByteArray.empty y165 (wrap64 (Int.tmod (IntKind.u64.wrap (a0)) 4))).size ≤ 9223372036854775807 then (if 1 + (rdOf ByteArray.empty y165 (wrap64 (Int.tmod (IntKind.u64.wrap (a0)) 4))).size + 1 ≤ 9223372036854775807 then (if 1 + (rdOf ByteArray.empty y165 (wrap64 (Int.tmod (IntKind.u64.wrap (a0)) 4))).size + 1 + (t168.size + 5 + ((rdOf ByteArray.empty y165 (Int.tmod (wrap64 ((wrap64 (Int.tmod (IntKind.u64.wrap (a0)) 4)) + 1)) 4)).size) + 3 + ((rdOf ByteArray.empty y165 (wrap64 (Int.tmod (IntKind.u64.wrap (a0)) 4))).extract 1 (rdOf ByteArray.empty y165 (wrap64 (Int.tmod (IntKind.u64.wrap (a0)) 4))).size).size + 1 + t171.size + 1) ≤ 9223372036854775807 then (if 1 + (rdOf ByteArray.empty y165 (wrap64 (Int.tmod (IntKind.u64.wrap (a0)) 4))).size + 1 + (t168.size + 5 + ((rdOf ByteArray.empty y165 (Int.tmod (wrap64 ((wrap64 (Int.tmod (IntKind.u64.wrap (a0)) 4)) + 1)) 4)).size) + 3 + ((rdOf ByteArray.empty y165 (wrap64 (Int.tmod (IntKind.u64.wrap (a0)) 4))).extract 1 (rdOf ByteArray.empty y165 (wrap64 (Int.tmod (IntKind.u64.wrap (a0)) 4))).size).size + 1 + t171.size + 1) + 2 ≤ 9223372036854775807 then (if 1 + (rdOf ByteArray.empty y165 (wrap64 (Int.tmod (IntKind.u64.wrap (a0)) 4))).size + 1 + (t168.size + 5 + ((rdOf ByteArray.empty y165 (Int.tmod (wrap64 ((wrap64 (Int.tmod (IntKind.u64.wrap (a0)) 4)) + 1)) 4)).size) + 3 + ((rdOf ByteArray.empty y165 (wrap64 (Int.tmod (IntKind.u64.wrap (a0)) 4))).extract 1 (rdOf ByteArray.empty y165 (wrap64 (Int.tmod (IntKind.u64.wrap (a0)) 4))).size).size + 1 + t171.size + 1) + 2 + (rdOf ByteArray.empty y165 (wrap64 (Int.tmod (IntKind.u64.wrap (a0)) 4))).size ≤ 9223372036854775807 then (if 1 + (rdOf ByteArray.empty y165 (wrap64 (Int.tmod (IntKind.u64.wrap (a0)) 4))).size + 1 + (t168.size + 5 + ((rdOf ByteArray.empty y165 (Int.tmod (wrap64 ((wrap64 (Int.tmod (IntKind.u64.wrap (a0)) 4)) + 1)) 4)).size) + 3 + ((rdOf ByteArray.empty y165 (wrap64 (Int.tmod (IntKind.u64.wrap (a0)) 4))).extract 1 (rdOf ByteArray.empty y165 (wrap64 (Int.tmod (IntKind.u64.wrap (a0)) 4))).size).size + 1 + t171.size + 1) + 2 + (rdOf ByteArray.empty y165 (wrap64 (Int.tmod (IntKind.u64.wrap (a0)) 4))).size + 4 ≤ 9223372036854775807 then ((tok_Tokens.f (((((((⟨#[60]⟩ : ByteArray) ++ (rdOf ByteArray.empty y165 (wrap64 (Int.tmod (IntKind.u64.wrap (a0)) 4)))) ++ (⟨#[62]⟩ : ByteArray)) ++ (((((((t168 ++ (⟨#[60, 112, 62, 60, 47]⟩ : ByteArray)) ++ (rdOf ByteArray.empty y165 (Int.tmod (wrap64 ((wrap64 (Int.tmod (IntKind.u64.wrap (a0)) 4)) + 1)) 4))) ++ (⟨#[62, 60, 47]⟩ : ByteArray)) ++ ((rdOf ByteArray.empty y165 (wrap64 (Int.tmod (IntKind.u64.wrap (a0)) 4))).extract 1 (rdOf ByteArray.empty y165 (wrap64 (Int.tmod (IntKind.u64.wrap (a0)) 4))).size)) ++ (⟨#[62]⟩ : ByteArray)) ++ t171) ++ (⟨#[60]⟩ : ByteArray))) ++ (⟨#[60, 47]⟩ : ByteArray)) ++ (rdOf ByteArray.empty y165 (wrap64 (Int.tmod (IntKind.u64.wrap (a0)) 4)))) ++ (⟨#[32, 120, 62, 121]⟩ : ByteArray))).bind fun bt174 => ((stolelaw0_Num.f bt174.2).bind fun t183 => (if t183 = 0 then ((stolelaw0_SameTokens.f bt174.1 (([(⟨1, rdOf ByteArray.empty y165 (wrap64 (Int.tmod (IntKind.u64.wrap (a0)) 4)), (⟨#[]⟩ : ByteArray), ([] : List (S47)), false⟩ : S30), (⟨0, (⟨#[]⟩ : ByteArray), ((((((t168 ++ (⟨#[60, 112, 62, 60, 47]⟩ : ByteArray)) ++ (rdOf ByteArray.empty y165 (Int.tmod (wrap64 ((wrap64 (Int.tmod (IntKind.u64.wrap (a0)) 4)) + 1)) 4))) ++ (⟨#[62, 60, 47]⟩ : ByteArray)) ++ ((rdOf ByteArray.empty y165 (wrap64 (Int.tmod (IntKind.u64.wrap (a0)) 4))).extract 1 (rdOf ByteArray.empty y165 (wrap64 (Int.tmod (IntKind.u64.wrap (a0)) 4))).size)) ++ (⟨#[62]⟩ : ByteArray)) ++ t171) ++ (⟨#[60]⟩ : ByteArray), ([] : List (S47)), false⟩ : S30), (⟨2, rdOf ByteArray.empty y165 (wrap64 (Int.tmod (IntKind.u64.wrap (a0)) 4)), (⟨#[]⟩ : ByteArray), ([] : List (S47)), false⟩ : S30), (⟨0, (⟨#[]⟩ : ByteArray), (⟨#[121]⟩ : ByteArray), ([] : List (S47)), false⟩ : S30)] : List (S30)))).bind fun t184 => (some t184)) else (some false)))) else (none)) else (none)) else (none)) else (none)) else (none)) else (none)) else (none)) else (none))) else (none)) else (none)) else (none)) else (none)) else (none)) else (none)) else (none)) else (none)) else (none)) else (none)))) else (some false)) = some r := H
 have A4 := Aside0.mk A40
 clear A40
 by_cases c5 : t164 = true
 ·subst c5
  have H1 : ((some (([(⟨#[115, 99, 114, 105, 112, 116]⟩ : ByteArray), (⟨#[115, 116, 121, 108, 101]⟩ : ByteArray), (⟨#[116, 105, 116, 108, 101]⟩ : ByteArray), (⟨#[116, 101, 120, 116, 97, 114, 101, 97]⟩ : ByteArray)] : List ByteArray) : List ByteArray)).bind fun y165 => ((stolelaw5_quiet.f k a1 0).bind fun t168 => (if t168.size + 5 ≤ 9223372036854775807 then (if 0 ≤ (Int.tmod (wrap64 ((wrap64 (Int.tmod (IntKind.u64.wrap (a0)) 4)) + 1)) 4) then (if (Int.tmod (wrap64 ((wrap64 (Int.tmod (IntKind.u64.wrap (a0)) 4)) + 1)) 4) < (y165.length : Int) then (if t168.size + 5 + ((rdOf ByteArray.empty y165 (Int.tmod (wrap64 ((wrap64 (Int.tmod (IntKind.u64.wrap (a0)) 4)) + 1)) 4)).size) ≤ 9223372036854775807 then (if t168.size + 5 + ((rdOf ByteArray.empty y165 (Int.tmod (wrap64 ((wrap64 (Int.tmod (IntKind.u64.wrap (a0)) 4)) + 1)) 4)).size) + 3 ≤ 9223372036854775807 then (if 0 ≤ (wrap64 (Int.tmod (IntKind.u64.wrap (a0)) 4)) then (if (wrap64 (Int.tmod (IntKind.u64.wrap (a0)) 4)) < (y165.length : Int) then (if 1 ≤ ((rdOf ByteArray.empty y165 (wrap64 (Int.tmod (IntKind.u64.wrap (a0)) 4))).size : Int) then (if t168.size + 5 + ((rdOf ByteArray.empty y165 (Int.tmod (wrap64 ((wrap64 (Int.tmod (IntKind.u64.wrap (a0)) 4)) + 1)) 4)).size) + 3 + ((rdOf ByteArray.empty y165 (wrap64 (Int.tmod (IntKind.u64.wrap (a0)) 4))).extract 1 (rdOf ByteArray.empty y165 (wrap64 (Int.tmod (IntKind.u64.wrap (a0)) 4))).size).size ≤ 9223372036854775807 then (if t168.size + 5 + ((rdOf ByteArray.empty y165 (Int.tmod (wrap64 ((wrap64 (Int.tmod (IntKind.u64.wrap (a0)) 4)) + 1)) 4)).size) + 3 + ((rdOf ByteArray.empty y165 (wrap64 (Int.tmod (IntKind.u64.wrap (a0)) 4))).extract 1 (rdOf ByteArray.empty y165 (wrap64 (Int.tmod (IntKind.u64.wrap (a0)) 4))).size).size + 1 ≤ 9223372036854775807 then ((stolelaw5_quiet.f k a2 0).bind fun t171 => (if t168.size + 5 + ((rdOf ByteArray.empty y165 (Int.tmod (wrap64 ((wrap64 (Int.tmod (IntKind.u64.wrap (a0)) 4)) + 1)) 4)).size) + 3 + ((rdOf ByteArray.empty y165 (wrap64 (Int.tmod (IntKind.u64.wrap (a0)) 4))).extract 1 (rdOf ByteArray.empty y165 (wrap64 (Int.tmod (IntKind.u64.wrap (a0)) 4))).size).size + 1 + t171.size ≤ 9223372036854775807 then (if t168.size + 5 + ((rdOf ByteArray.empty y165 (Int.tmod (wrap64 ((wrap64 (Int.tmod (IntKind.u64.wrap (a0)) 4)) + 1)) 4)).size) + 3 + ((rdOf ByteArray.empty y165 (wrap64 (Int.tmod (IntKind.u64.wrap (a0)) 4))).extract 1 (rdOf ByteArray.empty y165 (wrap64 (Int.tmod (IntKind.u64.wrap (a0)) 4))).size).size + 1 + t171.size + 1 ≤ 9223372036854775807 then (if 1 + (rdOf ByteArray.empty y165 (wrap64 (Int.tmod (IntKind.u64.wrap (a0)) 4))).size ≤ 9223372036854775807 then (if 1 + (rdOf ByteArray.empty y165 (wrap64 (Int.tmod (IntKind.u64.wrap (a0)) 4))).size + 1 ≤ 9223372036854775807 then (if 1 + (rdOf ByteArray.empty y165 (wrap64 (Int.tmod (IntKind.u64.wrap (a0)) 4))).size + 1 + (t168.size + 5 + ((rdOf ByteArray.empty y165 (Int.tmod (wrap64 ((wrap64 (Int.tmod (IntKind.u64.wrap (a0)) 4)) + 1)) 4)).size) + 3 + ((rdOf ByteArray.empty y165 (wrap64 (Int.tmod (IntKind.u64.wrap (a0)) 4))).extract 1 (rdOf ByteArray.empty y165 (wrap64 (Int.tmod (IntKind.u64.wrap (a0)) 4))).size).size + 1 + t171.size + 1) ≤ 9223372036854775807 then (if 1 + (rdOf ByteArray.empty y165 (wrap64 (Int.tmod (IntKind.u64.wrap (a0)) 4))).size + 1 + (t168.size + 5 + ((rdOf ByteArray.empty y165 (Int.tmod (wrap64 ((wrap64 (Int.tmod (IntKind.u64.wrap (a0)) 4)) + 1)) 4)).size) + 3 + ((rdOf ByteArray.empty y165 (wrap64 (Int.tmod (IntKind.u64.wrap (a0)) 4))).extract 1 (rdOf ByteArray.empty y165 (wrap64 (Int.tmod (IntKind.u64.wrap (a0)) 4))).size).size + 1 + t171.size + 1) + 2 ≤ 9223372036854775807 then (if 1 + (rdOf ByteArray.empty y165 (wrap64 (Int.tmod (IntKind.u64.wrap (a0)) 4))).size + 1 + (t168.size + 5 + ((rdOf ByteArray.empty y165 (Int.tmod (wrap64 ((wrap64 (Int.tmod (IntKind.u64.wrap (a0)) 4)) + 1)) 4)).size) + 3 + ((rdOf ByteArray.empty y165 (wrap64 (Int.tmod (IntKind.u64.wrap (a0)) 4))).extract 1 (rdOf ByteArray.empty y165 (wrap64 (Int.tmod (IntKind.u64.wrap (a0)) 4))).size).size + 1 + t171.size + 1) + 2 + (rdOf ByteArray.empty y165 (wrap64 (Int.tmod (IntKind.u64.wrap (a0)) 4))).size ≤ 9223372036854775807 then (if 1 + (rdOf ByteArray.empty y165 (wrap64 (Int.tmod (IntKind.u64.wrap (a0)) 4))).size + 1 + (t168.size + 5 + ((rdOf ByteArray.empty y165 (Int.tmod (wrap64 ((wrap64 (Int.tmod (IntKind.u64.wrap (a0)) 4)) + 1)) 4)).size) + 3 + ((rdOf ByteArray.empty y165 (wrap64 (Int.tmod (IntKind.u64.wrap (a0)) 4))).extract 1 (rdOf ByteArray.empty y165 (wrap64 (Int.tmod (IntKind.u64.wrap (a0)) 4))).size).size + 1 + t171.size + 1) + 2 + (rdOf ByteArray.empty y165 (wrap64 (Int.tmod (IntKind.u64.wrap (a0)) 4))).size + 4 ≤ 9223372036854775807 then ((tok_Tokens.f (((((((⟨#[60]⟩ : ByteArray) ++ (rdOf ByteArray.empty y165 (wrap64 (Int.tmod (IntKind.u64.wrap (a0)) 4)))) ++ (⟨#[62]⟩ : ByteArray)) ++ (((((((t168 ++ (⟨#[60, 112, 62, 60, 47]⟩ : ByteArray)) ++ (rdOf ByteArray.empty y165 (Int.tmod (wrap64 ((wrap64 (Int.tmod (IntKind.u64.wrap (a0)) 4)) + 1)) 4))) ++ (⟨#[62, 60, 47]⟩ : ByteArray)) ++ ((rdOf ByteArray.empty y165 (wrap64 (Int.tmod (IntKind.u64.wrap (a0)) 4))).extract 1 (rdOf ByteArray.empty y165 (wrap64 (Int.tmod (IntKind.u64.wrap (a0)) 4))).size)) ++ (⟨#[62]⟩ : ByteArray)) ++ t171) ++ (⟨#[60]⟩ : ByteArray))) ++ (⟨#[60, 47]⟩ : ByteArray)) ++ (rdOf ByteArray.empty y165 (wrap64 (Int.tmod (IntKind.u64.wrap (a0)) 4)))) ++ (⟨#[32, 120, 62, 121]⟩ : ByteArray))).bind fun bt174 => ((stolelaw0_Num.f bt174.2).bind fun t183 => (if t183 = 0 then ((stolelaw0_SameTokens.f bt174.1 (([(⟨1, rdOf ByteArray.empty y165 (wrap64 (Int.tmod (IntKind.u64.wrap (a0)) 4)), (⟨#[]⟩ : ByteArray), ([] : List (S47)), false⟩ : S30), (⟨0, (⟨#[]⟩ : ByteArray), ((((((t168 ++ (⟨#[60, 112, 62, 60, 47]⟩ : ByteArray)) ++ (rdOf ByteArray.empty y165 (Int.tmod (wrap64 ((wrap64 (Int.tmod (IntKind.u64.wrap (a0)) 4)) + 1)) 4))) ++ (⟨#[62, 60, 47]⟩ : ByteArray)) ++ ((rdOf ByteArray.empty y165 (wrap64 (Int.tmod (IntKind.u64.wrap (a0)) 4))).extract 1 (rdOf ByteArray.empty y165 (wrap64 (Int.tmod (IntKind.u64.wrap (a0)) 4))).size)) ++ (⟨#[62]⟩ : ByteArray)) ++ t171) ++ (⟨#[60]⟩ : ByteArray), ([] : List (S47)), false⟩ : S30), (⟨2, rdOf ByteArray.empty y165 (wrap64 (Int.tmod (IntKind.u64.wrap (a0)) 4)), (⟨#[]⟩ : ByteArray), ([] : List (S47)), false⟩ : S30), (⟨0, (⟨#[]⟩ : ByteArray), (⟨#[121]⟩ : ByteArray), ([] : List (S47)), false⟩ : S30)] : List (S30)))).bind fun t184 => (some t184)) else (some false)))) else (none)) else (none)) else (none)) else (none)) else (none)) else (none)) else (none)) else (none))) else (none)) else (none)) else (none)) else (none)) else (none)) else (none)) else (none)) else (none)) else (none)) else (none)))) = some r := by rw [if_pos rfl] at H; exact H
  clear H
  have H := H1
  clear H1
  obtain ⟨y165, hy165⟩ : ∃ y_ : List ByteArray, y_ = (([(⟨#[115, 99, 114, 105, 112, 116]⟩ : ByteArray), (⟨#[115, 116, 121, 108, 101]⟩ : ByteArray), (⟨#[116, 105, 116, 108, 101]⟩ : ByteArray), (⟨#[116, 101, 120, 116, 97, 114, 101, 97]⟩ : ByteArray)] : List ByteArray)) := ⟨_, rfl⟩
  replace H : ((stolelaw5_quiet.f k a1 0).bind fun t168 => (if t168.size + 5 ≤ 9223372036854775807 then (if 0 ≤ (Int.tmod (wrap64 ((wrap64 (Int.tmod (IntKind.u64.wrap (a0)) 4)) + 1)) 4) then (if (Int.tmod (wrap64 ((wrap64 (Int.tmod (IntKind.u64.wrap (a0)) 4)) + 1)) 4) < (y165.length : Int) then (if t168.size + 5 + ((rdOf ByteArray.empty y165 (Int.tmod (wrap64 ((wrap64 (Int.tmod (IntKind.u64.wrap (a0)) 4)) + 1)) 4)).size) ≤ 9223372036854775807 then (if t168.size + 5 + ((rdOf ByteArray.empty y165 (Int.tmod (wrap64 ((wrap64 (Int.tmod (IntKind.u64.wrap (a0)) 4)) + 1)) 4)).size) + 3 ≤ 9223372036854775807 then (if 0 ≤ (wrap64 (Int.tmod (IntKind.u64.wrap (a0)) 4)) then (if (wrap64 (Int.tmod (IntKind.u64.wrap (a0)) 4)) < (y165.length : Int) then (if 1 ≤ ((rdOf ByteArray.empty y165 (wrap64 (Int.tmod (IntKind.u64.wrap (a0)) 4))).size : Int) then (if t168.size + 5 + ((rdOf ByteArray.empty y165 (Int.tmod (wrap64 ((wrap64 (Int.tmod (IntKind.u64.wrap (a0)) 4)) + 1)) 4)).size) + 3 + ((rdOf ByteArray.empty y165 (wrap64 (Int.tmod (IntKind.u64.wrap (a0)) 4))).extract 1 (rdOf ByteArray.empty y165 (wrap64 (Int.tmod (IntKind.u64.wrap (a0)) 4))).size).size ≤ 9223372036854775807 then (if t168.size + 5 + ((rdOf ByteArray.empty y165 (Int.tmod (wrap64 ((wrap64 (Int.tmod (IntKind.u64.wrap (a0)) 4)) + 1)) 4)).size) + 3 + ((rdOf ByteArray.empty y165 (wrap64 (Int.tmod (IntKind.u64.wrap (a0)) 4))).extract 1 (rdOf ByteArray.empty y165 (wrap64 (Int.tmod (IntKind.u64.wrap (a0)) 4))).size).size + 1 ≤ 9223372036854775807 then ((stolelaw5_quiet.f k a2 0).bind fun t171 => (if t168.size + 5 + ((rdOf ByteArray.empty y165 (Int.tmod (wrap64 ((wrap64 (Int.tmod (IntKind.u64.wrap (a0)) 4)) + 1)) 4)).size) + 3 + ((rdOf ByteArray.empty y165 (wrap64 (Int.tmod (IntKind.u64.wrap (a0)) 4))).extract 1 (rdOf ByteArray.empty y165 (wrap64 (Int.tmod (IntKind.u64.wrap (a0)) 4))).size).size + 1 + t171.size ≤ 9223372036854775807 then (if t168.size + 5 + ((rdOf ByteArray.empty y165 (Int.tmod (wrap64 ((wrap64 (Int.tmod (IntKind.u64.wrap (a0)) 4)) + 1)) 4)).size) + 3 + ((rdOf ByteArray.empty y165 (wrap64 (Int.tmod (IntKind.u64.wrap (a0)) 4))).extract 1 (rdOf ByteArray.empty y165 (wrap64 (Int.tmod (IntKind.u64.wrap (a0)) 4))).size).size + 1 + t171.size + 1 ≤ 9223372036854775807 then (if 1 + (rdOf ByteArray.empty y165 (wrap64 (Int.tmod (IntKind.u64.wrap (a0)) 4))).size ≤ 9223372036854775807 then (if 1 + (rdOf ByteArray.empty y165 (wrap64 (Int.tmod (IntKind.u64.wrap (a0)) 4))).size + 1 ≤ 9223372036854775807 then (if 1 + (rdOf ByteArray.empty y165 (wrap64 (Int.tmod (IntKind.u64.wrap (a0)) 4))).size + 1 + (t168.size + 5 + ((rdOf ByteArray.empty y165 (Int.tmod (wrap64 ((wrap64 (Int.tmod (IntKind.u64.wrap (a0)) 4)) + 1)) 4)).size) + 3 + ((rdOf ByteArray.empty y165 (wrap64 (Int.tmod (IntKind.u64.wrap (a0)) 4))).extract 1 (rdOf ByteArray.empty y165 (wrap64 (Int.tmod (IntKind.u64.wrap (a0)) 4))).size).size + 1 + t171.size + 1) ≤ 9223372036854775807 then (if 1 + (rdOf ByteArray.empty y165 (wrap64 (Int.tmod (IntKind.u64.wrap (a0)) 4))).size + 1 + (t168.size + 5 + ((rdOf ByteArray.empty y165 (Int.tmod (wrap64 ((wrap64 (Int.tmod (IntKind.u64.wrap (a0)) 4)) + 1)) 4)).size) + 3 + ((rdOf ByteArray.empty y165 (wrap64 (Int.tmod (IntKind.u64.wrap (a0)) 4))).extract 1 (rdOf ByteArray.empty y165 (wrap64 (Int.tmod (IntKind.u64.wrap (a0)) 4))).size).size + 1 + t171.size + 1) + 2 ≤ 9223372036854775807 then (if 1 + (rdOf ByteArray.empty y165 (wrap64 (Int.tmod (IntKind.u64.wrap (a0)) 4))).size + 1 + (t168.size + 5 + ((rdOf ByteArray.empty y165 (Int.tmod (wrap64 ((wrap64 (Int.tmod (IntKind.u64.wrap (a0)) 4)) + 1)) 4)).size) + 3 + ((rdOf ByteArray.empty y165 (wrap64 (Int.tmod (IntKind.u64.wrap (a0)) 4))).extract 1 (rdOf ByteArray.empty y165 (wrap64 (Int.tmod (IntKind.u64.wrap (a0)) 4))).size).size + 1 + t171.size + 1) + 2 + (rdOf ByteArray.empty y165 (wrap64 (Int.tmod (IntKind.u64.wrap (a0)) 4))).size ≤ 9223372036854775807 then (if 1 + (rdOf ByteArray.empty y165 (wrap64 (Int.tmod (IntKind.u64.wrap (a0)) 4))).size + 1 + (t168.size + 5 + ((rdOf ByteArray.empty y165 (Int.tmod (wrap64 ((wrap64 (Int.tmod (IntKind.u64.wrap (a0)) 4)) + 1)) 4)).size) + 3 + ((rdOf ByteArray.empty y165 (wrap64 (Int.tmod (IntKind.u64.wrap (a0)) 4))).extract 1 (rdOf ByteArray.empty y165 (wrap64 (Int.tmod (IntKind.u64.wrap (a0)) 4))).size).size + 1 + t171.size + 1) + 2 + (rdOf ByteArray.empty y165 (wrap64 (Int.tmod (IntKind.u64.wrap (a0)) 4))).size + 4 ≤ 9223372036854775807 then ((tok_Tokens.f (((((((⟨#[60]⟩ : ByteArray) ++ (rdOf ByteArray.empty y165 (wrap64 (Int.tmod (IntKind.u64.wrap (a0)) 4)))) ++ (⟨#[62]⟩ : ByteArray)) ++ (((((((t168 ++ (⟨#[60, 112, 62, 60, 47]⟩ : ByteArray)) ++ (rdOf ByteArray.empty y165 (Int.tmod (wrap64 ((wrap64 (Int.tmod (IntKind.u64.wrap (a0)) 4)) + 1)) 4))) ++ (⟨#[62, 60, 47]⟩ : ByteArray)) ++ ((rdOf ByteArray.empty y165 (wrap64 (Int.tmod (IntKind.u64.wrap (a0)) 4))).extract 1 (rdOf ByteArray.empty y165 (wrap64 (Int.tmod (IntKind.u64.wrap (a0)) 4))).size)) ++ (⟨#[62]⟩ : ByteArray)) ++ t171) ++ (⟨#[60]⟩ : ByteArray))) ++ (⟨#[60, 47]⟩ : ByteArray)) ++ (rdOf ByteArray.empty y165 (wrap64 (Int.tmod (IntKind.u64.wrap (a0)) 4)))) ++ (⟨#[32, 120, 62, 121]⟩ : ByteArray))).bind fun bt174 => ((stolelaw0_Num.f bt174.2).bind fun t183 => (if t183 = 0 then ((stolelaw0_SameTokens.f bt174.1 (([(⟨1, rdOf ByteArray.empty y165 (wrap64 (Int.tmod (IntKind.u64.wrap (a0)) 4)), (⟨#[]⟩ : ByteArray), ([] : List (S47)), false⟩ : S30), (⟨0, (⟨#[]⟩ : ByteArray), ((((((t168 ++ (⟨#[60, 112, 62, 60, 47]⟩ : ByteArray)) ++ (rdOf ByteArray.empty y165 (Int.tmod (wrap64 ((wrap64 (Int.tmod (IntKind.u64.wrap (a0)) 4)) + 1)) 4))) ++ (⟨#[62, 60, 47]⟩ : ByteArray)) ++ ((rdOf ByteArray.empty y165 (wrap64 (Int.tmod (IntKind.u64.wrap (a0)) 4))).extract 1 (rdOf ByteArray.empty y165 (wrap64 (Int.tmod (IntKind.u64.wrap (a0)) 4))).size)) ++ (⟨#[62]⟩ : ByteArray)) ++ t171) ++ (⟨#[60]⟩ : ByteArray), ([] : List (S47)), false⟩ : S30), (⟨2, rdOf ByteArray.empty y165 (wrap64 (Int.tmod (IntKind.u64.wrap (a0)) 4)), (⟨#[]⟩ : ByteArray), ([] : List (S47)), false⟩ : S30), (⟨0, (⟨#[]⟩ : ByteArray), (⟨#[121]⟩ : ByteArray), ([] : List (S47)), false⟩ : S30)] : List (S30)))).bind fun t184 => (some t184)) else (some false)))) else (none)) else (none)) else (none)) else (none)) else (none)) else (none)) else (none)) else (none))) else (none)) else (none)) else (none)) else (none)) else (none)) else (none)) else (none)) else (none)) else (none)) else (none))) = some r := by first | (rw [hy165]; with_reducible exact H) | (have H2_ := (Option.bind_some _ _).symm.trans H; rw [hy165]; with_reducible exact H2_) | (have H2_ := (Option.bind_some _ _).symm.trans H; with_reducible exact H2_) | with_reducible exact H | (rw [hy165]; exact H) | exact H
  have Ny165 := Aside0.mk hy165
  clear hy165
  replace H := Option.bind_eq_some_iff.mp H
  obtain ⟨t168, A60, H⟩ := H
  replace H : (if t168.size + 5 ≤ 9223372036854775807 then (if 0 ≤ (Int.tmod (wrap64 ((wrap64 (Int.tmod (IntKind.u64.wrap (a0)) 4)) + 1)) 4) then (if (Int.tmod (wrap64 ((wrap64 (Int.tmod (IntKind.u64.wrap (a0)) 4)) + 1)) 4) < (y165.length : Int) then (if t168.size + 5 + ((rdOf ByteArray.empty y165 (Int.tmod (wrap64 ((wrap64 (Int.tmod (IntKind.u64.wrap (a0)) 4)) + 1)) 4)).size) ≤ 9223372036854775807 then (if t168.size + 5 + ((rdOf ByteArray.empty y165 (Int.tmod (wrap64 ((wrap64 (Int.tmod (IntKind.u64.wrap (a0)) 4)) + 1)) 4)).size) + 3 ≤ 9223372036854775807 then (if 0 ≤ (wrap64 (Int.tmod (IntKind.u64.wrap (a0)) 4)) then (if (wrap64 (Int.tmod (IntKind.u64.wrap (a0)) 4)) < (y165.length : Int) then (if 1 ≤ ((rdOf ByteArray.empty y165 (wrap64 (Int.tmod (IntKind.u64.wrap (a0)) 4))).size : Int) then (if t168.size + 5 + ((rdOf ByteArray.empty y165 (Int.tmod (wrap64 ((wrap64 (Int.tmod (IntKind.u64.wrap (a0)) 4)) + 1)) 4)).size) + 3 + ((rdOf ByteArray.empty y165 (wrap64 (Int.tmod (IntKind.u64.wrap (a0)) 4))).extract 1 (rdOf ByteArray.empty y165 (wrap64 (Int.tmod (IntKind.u64.wrap (a0)) 4))).size).size ≤ 9223372036854775807 then (if t168.size + 5 + ((rdOf ByteArray.empty y165 (Int.tmod (wrap64 ((wrap64 (Int.tmod (IntKind.u64.wrap (a0)) 4)) + 1)) 4)).size) + 3 + ((rdOf ByteArray.empty y165 (wrap64 (Int.tmod (IntKind.u64.wrap (a0)) 4))).extract 1 (rdOf ByteArray.empty y165 (wrap64 (Int.tmod (IntKind.u64.wrap (a0)) 4))).size).size + 1 ≤ 9223372036854775807 then ((stolelaw5_quiet.f k a2 0).bind fun t171 => (if t168.size + 5 + ((rdOf ByteArray.empty y165 (Int.tmod (wrap64 ((wrap64 (Int.tmod (IntKind.u64.wrap (a0)) 4)) + 1)) 4)).size) + 3 + ((rdOf ByteArray.empty y165 (wrap64 (Int.tmod (IntKind.u64.wrap (a0)) 4))).extract 1 (rdOf ByteArray.empty y165 (wrap64 (Int.tmod (IntKind.u64.wrap (a0)) 4))).size).size + 1 + t171.size ≤ 9223372036854775807 then (if t168.size + 5 + ((rdOf ByteArray.empty y165 (Int.tmod (wrap64 ((wrap64 (Int.tmod (IntKind.u64.wrap (a0)) 4)) + 1)) 4)).size) + 3 + ((rdOf ByteArray.empty y165 (wrap64 (Int.tmod (IntKind.u64.wrap (a0)) 4))).extract 1 (rdOf ByteArray.empty y165 (wrap64 (Int.tmod (IntKind.u64.wrap (a0)) 4))).size).size + 1 + t171.size + 1 ≤ 9223372036854775807 then (if 1 + (rdOf ByteArray.empty y165 (wrap64 (Int.tmod (IntKind.u64.wrap (a0)) 4))).size ≤ 9223372036854775807 then (if 1 + (rdOf ByteArray.empty y165 (wrap64 (Int.tmod (IntKind.u64.wrap (a0)) 4))).size + 1 ≤ 9223372036854775807 then (if 1 + (rdOf ByteArray.empty y165 (wrap64 (Int.tmod (IntKind.u64.wrap (a0)) 4))).size + 1 + (t168.size + 5 + ((rdOf ByteArray.empty y165 (Int.tmod (wrap64 ((wrap64 (Int.tmod (IntKind.u64.wrap (a0)) 4)) + 1)) 4)).size) + 3 + ((rdOf ByteArray.empty y165 (wrap64 (Int.tmod (IntKind.u64.wrap (a0)) 4))).extract 1 (rdOf ByteArray.empty y165 (wrap64 (Int.tmod (IntKind.u64.wrap (a0)) 4))).size).size + 1 + t171.size + 1) ≤ 9223372036854775807 then (if 1 + (rdOf ByteArray.empty y165 (wrap64 (Int.tmod (IntKind.u64.wrap (a0)) 4))).size + 1 + (t168.size + 5 + ((rdOf ByteArray.empty y165 (Int.tmod (wrap64 ((wrap64 (Int.tmod (IntKind.u64.wrap (a0)) 4)) + 1)) 4)).size) + 3 + ((rdOf ByteArray.empty y165 (wrap64 (Int.tmod (IntKind.u64.wrap (a0)) 4))).extract 1 (rdOf ByteArray.empty y165 (wrap64 (Int.tmod (IntKind.u64.wrap (a0)) 4))).size).size + 1 + t171.size + 1) + 2 ≤ 9223372036854775807 then (if 1 + (rdOf ByteArray.empty y165 (wrap64 (Int.tmod (IntKind.u64.wrap (a0)) 4))).size + 1 + (t168.size + 5 + ((rdOf ByteArray.empty y165 (Int.tmod (wrap64 ((wrap64 (Int.tmod (IntKind.u64.wrap (a0)) 4)) + 1)) 4)).size) + 3 + ((rdOf ByteArray.empty y165 (wrap64 (Int.tmod (IntKind.u64.wrap (a0)) 4))).extract 1 (rdOf ByteArray.empty y165 (wrap64 (Int.tmod (IntKind.u64.wrap (a0)) 4))).size).size + 1 + t171.size + 1) + 2 + (rdOf ByteArray.empty y165 (wrap64 (Int.tmod (IntKind.u64.wrap (a0)) 4))).size ≤ 9223372036854775807 then (if 1 + (rdOf ByteArray.empty y165 (wrap64 (Int.tmod (IntKind.u64.wrap (a0)) 4))).size + 1 + (t168.size + 5 + ((rdOf ByteArray.empty y165 (Int.tmod (wrap64 ((wrap64 (Int.tmod (IntKind.u64.wrap (a0)) 4)) + 1)) 4)).size) + 3 + ((rdOf ByteArray.empty y165 (wrap64 (Int.tmod (IntKind.u64.wrap (a0)) 4))).extract 1 (rdOf ByteArray.empty y165 (wrap64 (Int.tmod (IntKind.u64.wrap (a0)) 4))).size).size + 1 + t171.size + 1) + 2 + (rdOf ByteArray.empty y165 (wrap64 (Int.tmod (IntKind.u64.wrap (a0)) 4))).size + 4 ≤ 9223372036854775807 then ((tok_Tokens.f (((((((⟨#[60]⟩ : ByteArray) ++ (rdOf ByteArray.empty y165 (wrap64 (Int.tmod (IntKind.u64.wrap (a0)) 4)))) ++ (⟨#[62]⟩ : ByteArray)) ++ (((((((t168 ++ (⟨#[60, 112, 62, 60, 47]⟩ : ByteArray)) ++ (rdOf ByteArray.empty y165 (Int.tmod (wrap64 ((wrap64 (Int.tmod (IntKind.u64.wrap (a0)) 4)) + 1)) 4))) ++ (⟨#[62, 60, 47]⟩ : ByteArray)) ++ ((rdOf ByteArray.empty y165 (wrap64 (Int.tmod (IntKind.u64.wrap (a0)) 4))).extract 1 (rdOf ByteArray.empty y165 (wrap64 (Int.tmod (IntKind.u64.wrap (a0)) 4))).size)) ++ (⟨#[62]⟩ : ByteArray)) ++ t171) ++ (⟨#[60]⟩ : ByteArray))) ++ (⟨#[60, 47]⟩ : ByteArray)) ++ (rdOf ByteArray.empty y165 (wrap64 (Int.tmod (IntKind.u64.wrap (a0)) 4)))) ++ (⟨#[32, 120, 62, 121]⟩ : ByteArray))).bind fun bt174 => ((stolelaw0_Num.f bt174.2).bind fun t183 => (if t183 = 0 then ((stolelaw0_SameTokens.f bt174.1 (([(⟨1, rdOf ByteArray.empty y165 (wrap64 (Int.tmod (IntKind.u64.wrap (a0)) 4)), (⟨#[]⟩ : ByteArray), ([] : List (S47)), false⟩ : S30), (⟨0, (⟨#[]⟩ : ByteArray), ((((((t168 ++ (⟨#[60, 112, 62, 60, 47]⟩ : ByteArray)) ++ (rdOf ByteArray.empty y165 (Int.tmod (wrap64 ((wrap64 (Int.tmod (IntKind.u64.wrap (a0)) 4)) + 1)) 4))) ++ (⟨#[62, 60, 47]⟩ : ByteArray)) ++ ((rdOf ByteArray.empty y165 (wrap64 (Int.tmod (IntKind.u64.wrap (a0)) 4))).extract 1 (rdOf ByteArray.empty y165 (wrap64 (Int.tmod (IntKind.u64.wrap (a0)) 4))).size)) ++ (⟨#[62]⟩ : ByteArray)) ++ t171) ++ (⟨#[60]⟩ : ByteArray), ([] : List (S47)), false⟩ : S30), (⟨2, rdOf ByteArray.empty y165 (wrap64 (Int.tmod (IntKind.u64.wrap (a0)) 4)), (⟨#[]⟩ : ByteArray), ([] : List (S47)), false⟩ : S30), (⟨0, (⟨#[]⟩ : ByteArray), (⟨#[121]⟩ : ByteArray), ([] : List (S47)), false⟩ : S30)] : List (S30)))).bind fun t184 => (some t184)) else (some false)))) else (none)) else (none)) else (none)) else (none)) else (none)) else (none)) else (none)) else (none))) else (none)) else (none)) else (none)) else (none)) else (none)) else (none)) else (none)) else (none)) else (none)) else (none)) = some r := H
  have A6 := Aside0.mk A60
  clear A60
  by_cases c7 : t168.size + 5 ≤ 9223372036854775807
  ·rw [if_pos c7] at H
   have c7b0 := eq_true c7
   have c7b1 : decide (t168.size + 5 ≤ 9223372036854775807) = true := decide_eq_true c7
   try have c7b2 : (9223372036854775807 < t168.size + 5) = False := eq_false (Nat.not_lt.2 c7)
   obtain ⟨ji8, hji8⟩ : ∃ j_ : Int, (Int.tmod (wrap64 ((wrap64 (Int.tmod (IntKind.u64.wrap (a0)) 4)) + 1)) 4) = j_ := ⟨_, rfl⟩
   replace H : (if 0 ≤ (ji8) then (if (ji8) < (y165.length : Int) then (if t168.size + 5 + ((rdOf ByteArray.empty y165 (ji8)).size) ≤ 9223372036854775807 then (if t168.size + 5 + ((rdOf ByteArray.empty y165 (ji8)).size) + 3 ≤ 9223372036854775807 then (if 0 ≤ (wrap64 (Int.tmod (IntKind.u64.wrap (a0)) 4)) then (if (wrap64 (Int.tmod (IntKind.u64.wrap (a0)) 4)) < (y165.length : Int) then (if 1 ≤ ((rdOf ByteArray.empty y165 (wrap64 (Int.tmod (IntKind.u64.wrap (a0)) 4))).size : Int) then (if t168.size + 5 + ((rdOf ByteArray.empty y165 (ji8)).size) + 3 + ((rdOf ByteArray.empty y165 (wrap64 (Int.tmod (IntKind.u64.wrap (a0)) 4))).extract 1 (rdOf ByteArray.empty y165 (wrap64 (Int.tmod (IntKind.u64.wrap (a0)) 4))).size).size ≤ 9223372036854775807 then (if t168.size + 5 + ((rdOf ByteArray.empty y165 (ji8)).size) + 3 + ((rdOf ByteArray.empty y165 (wrap64 (Int.tmod (IntKind.u64.wrap (a0)) 4))).extract 1 (rdOf ByteArray.empty y165 (wrap64 (Int.tmod (IntKind.u64.wrap (a0)) 4))).size).size + 1 ≤ 9223372036854775807 then ((stolelaw5_quiet.f k a2 0).bind fun t171 => (if t168.size + 5 + ((rdOf ByteArray.empty y165 (ji8)).size) + 3 + ((rdOf ByteArray.empty y165 (wrap64 (Int.tmod (IntKind.u64.wrap (a0)) 4))).extract 1 (rdOf ByteArray.empty y165 (wrap64 (Int.tmod (IntKind.u64.wrap (a0)) 4))).size).size + 1 + t171.size ≤ 9223372036854775807 then (if t168.size + 5 + ((rdOf ByteArray.empty y165 (ji8)).size) + 3 + ((rdOf ByteArray.empty y165 (wrap64 (Int.tmod (IntKind.u64.wrap (a0)) 4))).extract 1 (rdOf ByteArray.empty y165 (wrap64 (Int.tmod (IntKind.u64.wrap (a0)) 4))).size).size + 1 + t171.size + 1 ≤ 9223372036854775807 then (if 1 + (rdOf ByteArray.empty y165 (wrap64 (Int.tmod (IntKind.u64.wrap (a0)) 4))).size ≤ 9223372036854775807 then (if 1 + (rdOf ByteArray.empty y165 (wrap64 (Int.tmod (IntKind.u64.wrap (a0)) 4))).size + 1 ≤ 9223372036854775807 then (if 1 + (rdOf ByteArray.empty y165 (wrap64 (Int.tmod (IntKind.u64.wrap (a0)) 4))).size + 1 + (t168.size + 5 + ((rdOf ByteArray.empty y165 (ji8)).size) + 3 + ((rdOf ByteArray.empty y165 (wrap64 (Int.tmod (IntKind.u64.wrap (a0)) 4))).extract 1 (rdOf ByteArray.empty y165 (wrap64 (Int.tmod (IntKind.u64.wrap (a0)) 4))).size).size + 1 + t171.size + 1) ≤ 9223372036854775807 then (if 1 + (rdOf ByteArray.empty y165 (wrap64 (Int.tmod (IntKind.u64.wrap (a0)) 4))).size + 1 + (t168.size + 5 + ((rdOf ByteArray.empty y165 (ji8)).size) + 3 + ((rdOf ByteArray.empty y165 (wrap64 (Int.tmod (IntKind.u64.wrap (a0)) 4))).extract 1 (rdOf ByteArray.empty y165 (wrap64 (Int.tmod (IntKind.u64.wrap (a0)) 4))).size).size + 1 + t171.size + 1) + 2 ≤ 9223372036854775807 then (if 1 + (rdOf ByteArray.empty y165 (wrap64 (Int.tmod (IntKind.u64.wrap (a0)) 4))).size + 1 + (t168.size + 5 + ((rdOf ByteArray.empty y165 (ji8)).size) + 3 + ((rdOf ByteArray.empty y165 (wrap64 (Int.tmod (IntKind.u64.wrap (a0)) 4))).extract 1 (rdOf ByteArray.empty y165 (wrap64 (Int.tmod (IntKind.u64.wrap (a0)) 4))).size).size + 1 + t171.size + 1) + 2 + (rdOf ByteArray.empty y165 (wrap64 (Int.tmod (IntKind.u64.wrap (a0)) 4))).size ≤ 9223372036854775807 then (if 1 + (rdOf ByteArray.empty y165 (wrap64 (Int.tmod (IntKind.u64.wrap (a0)) 4))).size + 1 + (t168.size + 5 + ((rdOf ByteArray.empty y165 (ji8)).size) + 3 + ((rdOf ByteArray.empty y165 (wrap64 (Int.tmod (IntKind.u64.wrap (a0)) 4))).extract 1 (rdOf ByteArray.empty y165 (wrap64 (Int.tmod (IntKind.u64.wrap (a0)) 4))).size).size + 1 + t171.size + 1) + 2 + (rdOf ByteArray.empty y165 (wrap64 (Int.tmod (IntKind.u64.wrap (a0)) 4))).size + 4 ≤ 9223372036854775807 then ((tok_Tokens.f (((((((⟨#[60]⟩ : ByteArray) ++ (rdOf ByteArray.empty y165 (wrap64 (Int.tmod (IntKind.u64.wrap (a0)) 4)))) ++ (⟨#[62]⟩ : ByteArray)) ++ (((((((t168 ++ (⟨#[60, 112, 62, 60, 47]⟩ : ByteArray)) ++ (rdOf ByteArray.empty y165 (ji8))) ++ (⟨#[62, 60, 47]⟩ : ByteArray)) ++ ((rdOf ByteArray.empty y165 (wrap64 (Int.tmod (IntKind.u64.wrap (a0)) 4))).extract 1 (rdOf ByteArray.empty y165 (wrap64 (Int.tmod (IntKind.u64.wrap (a0)) 4))).size)) ++ (⟨#[62]⟩ : ByteArray)) ++ t171) ++ (⟨#[60]⟩ : ByteArray))) ++ (⟨#[60, 47]⟩ : ByteArray)) ++ (rdOf ByteArray.empty y165 (wrap64 (Int.tmod (IntKind.u64.wrap (a0)) 4)))) ++ (⟨#[32, 120, 62, 121]⟩ : ByteArray))).bind fun bt174 => ((stolelaw0_Num.f bt174.2).bind fun t183 => (if t183 = 0 then ((stolelaw0_SameTokens.f bt174.1 (([(⟨1, rdOf ByteArray.empty y165 (wrap64 (Int.tmod (IntKind.u64.wrap (a0)) 4)), (⟨#[]⟩ : ByteArray), ([] : List (S47)), false⟩ : S30), (⟨0, (⟨#[]⟩ : ByteArray), ((((((t168 ++ (⟨#[60, 112, 62, 60, 47]⟩ : ByteArray)) ++ (rdOf ByteArray.empty y165 (ji8))) ++ (⟨#[62, 60, 47]⟩ : ByteArray)) ++ ((rdOf ByteArray.empty y165 (wrap64 (Int.tmod (IntKind.u64.wrap (a0)) 4))).extract 1 (rdOf ByteArray.empty y165 (wrap64 (Int.tmod (IntKind.u64.wrap (a0)) 4))).size)) ++ (⟨#[62]⟩ : ByteArray)) ++ t171) ++ (⟨#[60]⟩ : ByteArray), ([] : List (S47)), false⟩ : S30), (⟨2, rdOf ByteArray.empty y165 (wrap64 (Int.tmod (IntKind.u64.wrap (a0)) 4)), (⟨#[]⟩ : ByteArray), ([] : List (S47)), false⟩ : S30), (⟨0, (⟨#[]⟩ : ByteArray), (⟨#[121]⟩ : ByteArray), ([] : List (S47)), false⟩ : S30)] : List (S30)))).bind fun t184 => (some t184)) else (some false)))) else (none)) else (none)) else (none)) else (none)) else (none)) else (none)) else (none)) else (none))) else (none)) else (none)) else (none)) else (none)) else (none)) else (none)) else (none)) else (none)) else (none)) = some r := by first | (rw [hji8] at H; exact H) | (simp only [hji8] at H ⊢; exact H)
   (try rw [hji8] at A4)
   (try rw [hji8] at A6)
   by_cases c9 : 0 ≤ (ji8)
   ·rw [if_pos c9] at H
    have c9b0 : decide (0 ≤ (ji8)) = true := decide_eq_true c9
    clear c9
    by_cases c10 : (ji8) < (y165.length : Int)
    ·rw [if_pos c10] at H
     have c10b0 : decide ((ji8) < (y165.length : Int)) = true := decide_eq_true c10
     clear c10
     by_cases c11 : t168.size + 5 + ((rdOf ByteArray.empty y165 (ji8)).size) ≤ 9223372036854775807
     ·rw [if_pos c11] at H
      have c11b0 := eq_true c11
      have c11b1 : decide (t168.size + 5 + ((rdOf ByteArray.empty y165 (ji8)).size) ≤ 9223372036854775807) = true := decide_eq_true c11
      try have c11b2 : (9223372036854775807 < t168.size + 5 + ((rdOf ByteArray.empty y165 (ji8)).size)) = False := eq_false (Nat.not_lt.2 c11)
      by_cases c12 : t168.size + 5 + ((rdOf ByteArray.empty y165 (ji8)).size) + 3 ≤ 9223372036854775807
      ·rw [if_pos c12] at H
       have c12b0 := eq_true c12
       have c12b1 : decide (t168.size + 5 + ((rdOf ByteArray.empty y165 (ji8)).size) + 3 ≤ 9223372036854775807) = true := decide_eq_true c12
       try have c12b2 : (9223372036854775807 < t168.size + 5 + ((rdOf ByteArray.empty y165 (ji8)).size) + 3) = False := eq_false (Nat.not_lt.2 c12)
       obtain ⟨ji13, hji13⟩ : ∃ j_ : Int, (wrap64 (Int.tmod (IntKind.u64.wrap (a0)) 4)) = j_ := ⟨_, rfl⟩
       replace H : (if 0 ≤ (ji13) then (if (ji13) < (y165.length : Int) then (if 1 ≤ ((rdOf ByteArray.empty y165 (ji13)).size : Int) then (if t168.size + 5 + ((rdOf ByteArray.empty y165 (ji8)).size) + 3 + ((rdOf ByteArray.empty y165 (ji13)).extract 1 (rdOf ByteArray.empty y165 (ji13)).size).size ≤ 9223372036854775807 then (if t168.size + 5 + ((rdOf ByteArray.empty y165 (ji8)).size) + 3 + ((rdOf ByteArray.empty y165 (ji13)).extract 1 (rdOf ByteArray.empty y165 (ji13)).size).size + 1 ≤ 9223372036854775807 then ((stolelaw5_quiet.f k a2 0).bind fun t171 => (if t168.size + 5 + ((rdOf ByteArray.empty y165 (ji8)).size) + 3 + ((rdOf ByteArray.empty y165 (ji13)).extract 1 (rdOf ByteArray.empty y165 (ji13)).size).size + 1 + t171.size ≤ 9223372036854775807 then (if t168.size + 5 + ((rdOf ByteArray.empty y165 (ji8)).size) + 3 + ((rdOf ByteArray.empty y165 (ji13)).extract 1 (rdOf ByteArray.empty y165 (ji13)).size).size + 1 + t171.size + 1 ≤ 9223372036854775807 then (if 1 + (rdOf ByteArray.empty y165 (ji13)).size ≤ 9223372036854775807 then (if 1 + (rdOf ByteArray.empty y165 (ji13)).size + 1 ≤ 9223372036854775807 then (if 1 + (rdOf ByteArray.empty y165 (ji13)).size + 1 + (t168.size + 5 + ((rdOf ByteArray.empty y165 (ji8)).size) + 3 + ((rdOf ByteArray.empty y165 (ji13)).extract 1 (rdOf ByteArray.empty y165 (ji13)).size).size + 1 + t171.size + 1) ≤ 9223372036854775807 then (if 1 + (rdOf ByteArray.empty y165 (ji13)).size + 1 + (t168.size + 5 + ((rdOf ByteArray.empty y165 (ji8)).size) + 3 + ((rdOf ByteArray.empty y165 (ji13)).extract 1 (rdOf ByteArray.empty y165 (ji13)).size).size + 1 + t171.size + 1) + 2 ≤ 9223372036854775807 then (if 1 + (rdOf ByteArray.empty y165 (ji13)).size + 1 + (t168.size + 5 + ((rdOf ByteArray.empty y165 (ji8)).size) + 3 + ((rdOf ByteArray.empty y165 (ji13)).extract 1 (rdOf ByteArray.empty y165 (ji13)).size).size + 1 + t171.size + 1) + 2 + (rdOf ByteArray.empty y165 (ji13)).size ≤ 9223372036854775807 then (if 1 + (rdOf ByteArray.empty y165 (ji13)).size + 1 + (t168.size + 5 + ((rdOf ByteArray.empty y165 (ji8)).size) + 3 + ((rdOf ByteArray.empty y165 (ji13)).extract 1 (rdOf ByteArray.empty y165 (ji13)).size).size + 1 + t171.size + 1) + 2 + (rdOf ByteArray.empty y165 (ji13)).size + 4 ≤ 9223372036854775807 then ((tok_Tokens.f (((((((⟨#[60]⟩ : ByteArray) ++ (rdOf ByteArray.empty y165 (ji13))) ++ (⟨#[62]⟩ : ByteArray)) ++ (((((((t168 ++ (⟨#[60, 112, 62, 60, 47]⟩ : ByteArray)) ++ (rdOf ByteArray.empty y165 (ji8))) ++ (⟨#[62, 60, 47]⟩ : ByteArray)) ++ ((rdOf ByteArray.empty y165 (ji13)).extract 1 (rdOf ByteArray.empty y165 (ji13)).size)) ++ (⟨#[62]⟩ : ByteArray)) ++ t171) ++ (⟨#[60]⟩ : ByteArray))) ++ (⟨#[60, 47]⟩ : ByteArray)) ++ (rdOf ByteArray.empty y165 (ji13))) ++ (⟨#[32, 120, 62, 121]⟩ : ByteArray))).bind fun bt174 => ((stolelaw0_Num.f bt174.2).bind fun t183 => (if t183 = 0 then ((stolelaw0_SameTokens.f bt174.1 (([(⟨1, rdOf ByteArray.empty y165 (ji13), (⟨#[]⟩ : ByteArray), ([] : List (S47)), false⟩ : S30), (⟨0, (⟨#[]⟩ : ByteArray), ((((((t168 ++ (⟨#[60, 112, 62, 60, 47]⟩ : ByteArray)) ++ (rdOf ByteArray.empty y165 (ji8))) ++ (⟨#[62, 60, 47]⟩ : ByteArray)) ++ ((rdOf ByteArray.empty y165 (ji13)).extract 1 (rdOf ByteArray.empty y165 (ji13)).size)) ++ (⟨#[62]⟩ : ByteArray)) ++ t171) ++ (⟨#[60]⟩ : ByteArray), ([] : List (S47)), false⟩ : S30), (⟨2, rdOf ByteArray.empty y165 (ji13), (⟨#[]⟩ : ByteArray), ([] : List (S47)), false⟩ : S30), (⟨0, (⟨#[]⟩ : ByteArray), (⟨#[121]⟩ : ByteArray), ([] : List (S47)), false⟩ : S30)] : List (S30)))).bind fun t184 => (some t184)) else (some false)))) else (none)) else (none)) else (none)) else (none)) else (none)) else (none)) else (none)) else (none))) else (none)) else (none)) else (none)) else (none)) else (none)) = some r := by first | (rw [hji13] at H; exact H) | (simp only [hji13] at H ⊢; exact H)
       (try rw [hji13] at A4)
       (try rw [hji13] at A6)
       (try rw [hji13] at hji8)
       have hji13w : (IntKind.i64.wrap (Int.tmod (IntKind.u64.wrap (a0)) 4)) = ji13 := (i64_w _).trans hji13
       by_cases c14 : 0 ≤ (ji13)
       ·rw [if_pos c14] at H
        have c14b0 : decide (0 ≤ (ji13)) = true := decide_eq_true c14
        clear c14
        by_cases c15 : (ji13) < (y165.length : Int)
        ·rw [if_pos c15] at H
         have c15b0 : decide ((ji13) < (y165.length : Int)) = true := decide_eq_true c15
         clear c15
         by_cases c16 : 1 ≤ ((rdOf ByteArray.empty y165 (ji13)).size : Int)
         ·rw [if_pos c16] at H
          have c16b0 := eq_true c16
          have c16b1 : decide (1 ≤ ((rdOf ByteArray.empty y165 (ji13)).size : Int)) = true := decide_eq_true c16
          clear c16
          by_cases c17 : t168.size + 5 + ((rdOf ByteArray.empty y165 (ji8)).size) + 3 + ((rdOf ByteArray.empty y165 (ji13)).extract 1 (rdOf ByteArray.empty y165 (ji13)).size).size ≤ 9223372036854775807
          ·rw [if_pos c17] at H
           have c17b0 := eq_true c17
           have c17b1 : decide (t168.size + 5 + ((rdOf ByteArray.empty y165 (ji8)).size) + 3 + ((rdOf ByteArray.empty y165 (ji13)).extract 1 (rdOf ByteArray.empty y165 (ji13)).size).size ≤ 9223372036854775807) = true := decide_eq_true c17
           try have c17b2 : (9223372036854775807 < t168.size + 5 + ((rdOf ByteArray.empty y165 (ji8)).size) + 3 + ((rdOf ByteArray.empty y165 (ji13)).extract 1 (rdOf ByteArray.empty y165 (ji13)).size).size) = False := eq_false (Nat.not_lt.2 c17)
           by_cases c18 : t168.size + 5 + ((rdOf ByteArray.empty y165 (ji8)).size) + 3 + ((rdOf ByteArray.empty y165 (ji13)).extract 1 (rdOf ByteArray.empty y165 (ji13)).size).size + 1 ≤ 9223372036854775807
           ·rw [if_pos c18] at H
            have c18b0 := eq_true c18
            have c18b1 : decide (t168.size + 5 + ((rdOf ByteArray.empty y165 (ji8)).size) + 3 + ((rdOf ByteArray.empty y165 (ji13)).extract 1 (rdOf ByteArray.empty y165 (ji13)).size).size + 1 ≤ 9223372036854775807) = true := decide_eq_true c18
            try have c18b2 : (9223372036854775807 < t168.size + 5 + ((rdOf ByteArray.empty y165 (ji8)).size) + 3 + ((rdOf ByteArray.empty y165 (ji13)).extract 1 (rdOf ByteArray.empty y165 (ji13)).size).size + 1) = False := eq_false (Nat.not_lt.2 c18)
            replace H := Option.bind_eq_some_iff.mp H
            obtain ⟨t171, A190, H⟩ := H
            replace H : (if t168.size + 5 + ((rdOf ByteArray.empty y165 (ji8)).size) + 3 + ((rdOf ByteArray.empty y165 (ji13)).extract 1 (rdOf ByteArray.empty y165 (ji13)).size).size + 1 + t171.size ≤ 9223372036854775807 then (if t168.size + 5 + ((rdOf ByteArray.empty y165 (ji8)).size) + 3 + ((rdOf ByteArray.empty y165 (ji13)).extract 1 (rdOf ByteArray.empty y165 (ji13)).size).size + 1 + t171.size + 1 ≤ 9223372036854775807 then (if 1 + (rdOf ByteArray.empty y165 (ji13)).size ≤ 9223372036854775807 then (if 1 + (rdOf ByteArray.empty y165 (ji13)).size + 1 ≤ 9223372036854775807 then (if 1 + (rdOf ByteArray.empty y165 (ji13)).size + 1 + (t168.size + 5 + ((rdOf ByteArray.empty y165 (ji8)).size) + 3 + ((rdOf ByteArray.empty y165 (ji13)).extract 1 (rdOf ByteArray.empty y165 (ji13)).size).size + 1 + t171.size + 1) ≤ 9223372036854775807 then (if 1 + (rdOf ByteArray.empty y165 (ji13)).size + 1 + (t168.size + 5 + ((rdOf ByteArray.empty y165 (ji8)).size) + 3 + ((rdOf ByteArray.empty y165 (ji13)).extract 1 (rdOf ByteArray.empty y165 (ji13)).size).size + 1 + t171.size + 1) + 2 ≤ 9223372036854775807 then (if 1 + (rdOf ByteArray.empty y165 (ji13)).size + 1 + (t168.size + 5 + ((rdOf ByteArray.empty y165 (ji8)).size) + 3 + ((rdOf ByteArray.empty y165 (ji13)).extract 1 (rdOf ByteArray.empty y165 (ji13)).size).size + 1 + t171.size + 1) + 2 + (rdOf ByteArray.empty y165 (ji13)).size ≤ 9223372036854775807 then (if 1 + (rdOf ByteArray.empty y165 (ji13)).size + 1 + (t168.size + 5 + ((rdOf ByteArray.empty y165 (ji8)).size) + 3 + ((rdOf ByteArray.empty y165 (ji13)).extract 1 (rdOf ByteArray.empty y165 (ji13)).size).size + 1 + t171.size + 1) + 2 + (rdOf ByteArray.empty y165 (ji13)).size + 4 ≤ 9223372036854775807 then ((tok_Tokens.f (((((((⟨#[60]⟩ : ByteArray) ++ (rdOf ByteArray.empty y165 (ji13))) ++ (⟨#[62]⟩ : ByteArray)) ++ (((((((t168 ++ (⟨#[60, 112, 62, 60, 47]⟩ : ByteArray)) ++ (rdOf ByteArray.empty y165 (ji8))) ++ (⟨#[62, 60, 47]⟩ : ByteArray)) ++ ((rdOf ByteArray.empty y165 (ji13)).extract 1 (rdOf ByteArray.empty y165 (ji13)).size)) ++ (⟨#[62]⟩ : ByteArray)) ++ t171) ++ (⟨#[60]⟩ : ByteArray))) ++ (⟨#[60, 47]⟩ : ByteArray)) ++ (rdOf ByteArray.empty y165 (ji13))) ++ (⟨#[32, 120, 62, 121]⟩ : ByteArray))).bind fun bt174 => ((stolelaw0_Num.f bt174.2).bind fun t183 => (if t183 = 0 then ((stolelaw0_SameTokens.f bt174.1 (([(⟨1, rdOf ByteArray.empty y165 (ji13), (⟨#[]⟩ : ByteArray), ([] : List (S47)), false⟩ : S30), (⟨0, (⟨#[]⟩ : ByteArray), ((((((t168 ++ (⟨#[60, 112, 62, 60, 47]⟩ : ByteArray)) ++ (rdOf ByteArray.empty y165 (ji8))) ++ (⟨#[62, 60, 47]⟩ : ByteArray)) ++ ((rdOf ByteArray.empty y165 (ji13)).extract 1 (rdOf ByteArray.empty y165 (ji13)).size)) ++ (⟨#[62]⟩ : ByteArray)) ++ t171) ++ (⟨#[60]⟩ : ByteArray), ([] : List (S47)), false⟩ : S30), (⟨2, rdOf ByteArray.empty y165 (ji13), (⟨#[]⟩ : ByteArray), ([] : List (S47)), false⟩ : S30), (⟨0, (⟨#[]⟩ : ByteArray), (⟨#[121]⟩ : ByteArray), ([] : List (S47)), false⟩ : S30)] : List (S30)))).bind fun t184 => (some t184)) else (some false)))) else (none)) else (none)) else (none)) else (none)) else (none)) else (none)) else (none)) else (none)) = some r := H
            have A19 := Aside0.mk A190
            clear A190
            by_cases c20 : t168.size + 5 + ((rdOf ByteArray.empty y165 (ji8)).size) + 3 + ((rdOf ByteArray.empty y165 (ji13)).extract 1 (rdOf ByteArray.empty y165 (ji13)).size).size + 1 + t171.size ≤ 9223372036854775807
            ·rw [if_pos c20] at H
             have c20b0 := eq_true c20
             have c20b1 : decide (t168.size + 5 + ((rdOf ByteArray.empty y165 (ji8)).size) + 3 + ((rdOf ByteArray.empty y165 (ji13)).extract 1 (rdOf ByteArray.empty y165 (ji13)).size).size + 1 + t171.size ≤ 9223372036854775807) = true := decide_eq_true c20
             try have c20b2 : (9223372036854775807 < t168.size + 5 + ((rdOf ByteArray.empty y165 (ji8)).size) + 3 + ((rdOf ByteArray.empty y165 (ji13)).extract 1 (rdOf ByteArray.empty y165 (ji13)).size).size + 1 + t171.size) = False := eq_false (Nat.not_lt.2 c20)
             by_cases c21 : t168.size + 5 + ((rdOf ByteArray.empty y165 (ji8)).size) + 3 + ((rdOf ByteArray.empty y165 (ji13)).extract 1 (rdOf ByteArray.empty y165 (ji13)).size).size + 1 + t171.size + 1 ≤ 9223372036854775807
             ·rw [if_pos c21] at H
              have c21b0 := eq_true c21
              have c21b1 : decide (t168.size + 5 + ((rdOf ByteArray.empty y165 (ji8)).size) + 3 + ((rdOf ByteArray.empty y165 (ji13)).extract 1 (rdOf ByteArray.empty y165 (ji13)).size).size + 1 + t171.size + 1 ≤ 9223372036854775807) = true := decide_eq_true c21
              try have c21b2 : (9223372036854775807 < t168.size + 5 + ((rdOf ByteArray.empty y165 (ji8)).size) + 3 + ((rdOf ByteArray.empty y165 (ji13)).extract 1 (rdOf ByteArray.empty y165 (ji13)).size).size + 1 + t171.size + 1) = False := eq_false (Nat.not_lt.2 c21)
              by_cases c22 : 1 + (rdOf ByteArray.empty y165 (ji13)).size ≤ 9223372036854775807
              ·rw [if_pos c22] at H
               have c22b0 := eq_true c22
               have c22b1 : decide (1 + (rdOf ByteArray.empty y165 (ji13)).size ≤ 9223372036854775807) = true := decide_eq_true c22
               try have c22b2 : (9223372036854775807 < 1 + (rdOf ByteArray.empty y165 (ji13)).size) = False := eq_false (Nat.not_lt.2 c22)
               by_cases c23 : 1 + (rdOf ByteArray.empty y165 (ji13)).size + 1 ≤ 9223372036854775807
               ·rw [if_pos c23] at H
                have c23b0 := eq_true c23
                have c23b1 : decide (1 + (rdOf ByteArray.empty y165 (ji13)).size + 1 ≤ 9223372036854775807) = true := decide_eq_true c23
                try have c23b2 : (9223372036854775807 < 1 + (rdOf ByteArray.empty y165 (ji13)).size + 1) = False := eq_false (Nat.not_lt.2 c23)
                by_cases c24 : 1 + (rdOf ByteArray.empty y165 (ji13)).size + 1 + (t168.size + 5 + ((rdOf ByteArray.empty y165 (ji8)).size) + 3 + ((rdOf ByteArray.empty y165 (ji13)).extract 1 (rdOf ByteArray.empty y165 (ji13)).size).size + 1 + t171.size + 1) ≤ 9223372036854775807
                ·rw [if_pos c24] at H
                 have c24b0 := eq_true c24
                 have c24b1 : decide (1 + (rdOf ByteArray.empty y165 (ji13)).size + 1 + (t168.size + 5 + ((rdOf ByteArray.empty y165 (ji8)).size) + 3 + ((rdOf ByteArray.empty y165 (ji13)).extract 1 (rdOf ByteArray.empty y165 (ji13)).size).size + 1 + t171.size + 1) ≤ 9223372036854775807) = true := decide_eq_true c24
                 try have c24b2 : (9223372036854775807 < 1 + (rdOf ByteArray.empty y165 (ji13)).size + 1 + (t168.size + 5 + ((rdOf ByteArray.empty y165 (ji8)).size) + 3 + ((rdOf ByteArray.empty y165 (ji13)).extract 1 (rdOf ByteArray.empty y165 (ji13)).size).size + 1 + t171.size + 1)) = False := eq_false (Nat.not_lt.2 c24)
                 by_cases c25 : 1 + (rdOf ByteArray.empty y165 (ji13)).size + 1 + (t168.size + 5 + ((rdOf ByteArray.empty y165 (ji8)).size) + 3 + ((rdOf ByteArray.empty y165 (ji13)).extract 1 (rdOf ByteArray.empty y165 (ji13)).size).size + 1 + t171.size + 1) + 2 ≤ 9223372036854775807
                 ·rw [if_pos c25] at H
                  have c25b0 := eq_true c25
                  have c25b1 : decide (1 + (rdOf ByteArray.empty y165 (ji13)).size + 1 + (t168.size + 5 + ((rdOf ByteArray.empty y165 (ji8)).size) + 3 + ((rdOf ByteArray.empty y165 (ji13)).extract 1 (rdOf ByteArray.empty y165 (ji13)).size).size + 1 + t171.size + 1) + 2 ≤ 9223372036854775807) = true := decide_eq_true c25
                  try have c25b2 : (9223372036854775807 < 1 + (rdOf ByteArray.empty y165 (ji13)).size + 1 + (t168.size + 5 + ((rdOf ByteArray.empty y165 (ji8)).size) + 3 + ((rdOf ByteArray.empty y165 (ji13)).extract 1 (rdOf ByteArray.empty y165 (ji13)).size).size + 1 + t171.size + 1) + 2) = False := eq_false (Nat.not_lt.2 c25)
                  by_cases c26 : 1 + (rdOf ByteArray.empty y165 (ji13)).size + 1 + (t168.size + 5 + ((rdOf ByteArray.empty y165 (ji8)).size) + 3 + ((rdOf ByteArray.empty y165 (ji13)).extract 1 (rdOf ByteArray.empty y165 (ji13)).size).size + 1 + t171.size + 1) + 2 + (rdOf ByteArray.empty y165 (ji13)).size ≤ 9223372036854775807
                  ·rw [if_pos c26] at H
                   have c26b0 := eq_true c26
                   have c26b1 : decide (1 + (rdOf ByteArray.empty y165 (ji13)).size + 1 + (t168.size + 5 + ((rdOf ByteArray.empty y165 (ji8)).size) + 3 + ((rdOf ByteArray.empty y165 (ji13)).extract 1 (rdOf ByteArray.empty y165 (ji13)).size).size + 1 + t171.size + 1) + 2 + (rdOf ByteArray.empty y165 (ji13)).size ≤ 9223372036854775807) = true := decide_eq_true c26
                   try have c26b2 : (9223372036854775807 < 1 + (rdOf ByteArray.empty y165 (ji13)).size + 1 + (t168.size + 5 + ((rdOf ByteArray.empty y165 (ji8)).size) + 3 + ((rdOf ByteArray.empty y165 (ji13)).extract 1 (rdOf ByteArray.empty y165 (ji13)).size).size + 1 + t171.size + 1) + 2 + (rdOf ByteArray.empty y165 (ji13)).size) = False := eq_false (Nat.not_lt.2 c26)
                   by_cases c27 : 1 + (rdOf ByteArray.empty y165 (ji13)).size + 1 + (t168.size + 5 + ((rdOf ByteArray.empty y165 (ji8)).size) + 3 + ((rdOf ByteArray.empty y165 (ji13)).extract 1 (rdOf ByteArray.empty y165 (ji13)).size).size + 1 + t171.size + 1) + 2 + (rdOf ByteArray.empty y165 (ji13)).size + 4 ≤ 9223372036854775807
                   ·rw [if_pos c27] at H
                    have c27b0 := eq_true c27
                    have c27b1 : decide (1 + (rdOf ByteArray.empty y165 (ji13)).size + 1 + (t168.size + 5 + ((rdOf ByteArray.empty y165 (ji8)).size) + 3 + ((rdOf ByteArray.empty y165 (ji13)).extract 1 (rdOf ByteArray.empty y165 (ji13)).size).size + 1 + t171.size + 1) + 2 + (rdOf ByteArray.empty y165 (ji13)).size + 4 ≤ 9223372036854775807) = true := decide_eq_true c27
                    try have c27b2 : (9223372036854775807 < 1 + (rdOf ByteArray.empty y165 (ji13)).size + 1 + (t168.size + 5 + ((rdOf ByteArray.empty y165 (ji8)).size) + 3 + ((rdOf ByteArray.empty y165 (ji13)).extract 1 (rdOf ByteArray.empty y165 (ji13)).size).size + 1 + t171.size + 1) + 2 + (rdOf ByteArray.empty y165 (ji13)).size + 4) = False := eq_false (Nat.not_lt.2 c27)
                    replace H := Option.bind_eq_some_iff.mp H
                    obtain ⟨⟨t174, t175⟩, A280, H⟩ := H
                    replace H : ((stolelaw0_Num.f t175).bind fun t183 => (if t183 = 0 then ((stolelaw0_SameTokens.f t174 (([(⟨1, rdOf ByteArray.empty y165 (ji13), (⟨#[]⟩ : ByteArray), ([] : List (S47)), false⟩ : S30), (⟨0, (⟨#[]⟩ : ByteArray), ((((((t168 ++ (⟨#[60, 112, 62, 60, 47]⟩ : ByteArray)) ++ (rdOf ByteArray.empty y165 (ji8))) ++ (⟨#[62, 60, 47]⟩ : ByteArray)) ++ ((rdOf ByteArray.empty y165 (ji13)).extract 1 (rdOf ByteArray.empty y165 (ji13)).size)) ++ (⟨#[62]⟩ : ByteArray)) ++ t171) ++ (⟨#[60]⟩ : ByteArray), ([] : List (S47)), false⟩ : S30), (⟨2, rdOf ByteArray.empty y165 (ji13), (⟨#[]⟩ : ByteArray), ([] : List (S47)), false⟩ : S30), (⟨0, (⟨#[]⟩ : ByteArray), (⟨#[121]⟩ : ByteArray), ([] : List (S47)), false⟩ : S30)] : List (S30)))).bind fun t184 => (some t184)) else (some false))) = some r := H
                    have A28 := Aside0.mk A280
                    clear A280
                    obtain ⟨y180, hy180⟩ : ∃ y_ : List (S30), y_ = (([(⟨1, rdOf ByteArray.empty y165 (ji13), (⟨#[]⟩ : ByteArray), ([] : List (S47)), false⟩ : S30), (⟨0, (⟨#[]⟩ : ByteArray), ((((((t168 ++ (⟨#[60, 112, 62, 60, 47]⟩ : ByteArray)) ++ (rdOf ByteArray.empty y165 (ji8))) ++ (⟨#[62, 60, 47]⟩ : ByteArray)) ++ ((rdOf ByteArray.empty y165 (ji13)).extract 1 (rdOf ByteArray.empty y165 (ji13)).size)) ++ (⟨#[62]⟩ : ByteArray)) ++ t171) ++ (⟨#[60]⟩ : ByteArray), ([] : List (S47)), false⟩ : S30), (⟨2, rdOf ByteArray.empty y165 (ji13), (⟨#[]⟩ : ByteArray), ([] : List (S47)), false⟩ : S30), (⟨0, (⟨#[]⟩ : ByteArray), (⟨#[121]⟩ : ByteArray), ([] : List (S47)), false⟩ : S30)] : List (S30))) := ⟨_, rfl⟩
                    replace H : ((stolelaw0_Num.f t175).bind fun t183 => (if t183 = 0 then ((stolelaw0_SameTokens.f t174 y180).bind fun t184 => (some t184)) else (some false))) = some r := by first | (rw [hy180]; with_reducible exact H) | (have H2_ := (Option.bind_some _ _).symm.trans H; rw [hy180]; with_reducible exact H2_) | (have H2_ := (Option.bind_some _ _).symm.trans H; with_reducible exact H2_) | with_reducible exact H | (rw [hy180]; exact H) | exact H
                    have Ny180 := Aside0.mk hy180
                    clear hy180
                    replace H := Option.bind_eq_some_iff.mp H
                    obtain ⟨t183, A290, H⟩ := H
                    replace H : (if t183 = 0 then ((stolelaw0_SameTokens.f t174 y180).bind fun t184 => (some t184)) else (some false)) = some r := H
                    have A29 := Aside0.mk A290
                    clear A290
                    by_cases c30 : t183 = 0
                    ·rw [if_pos c30] at H
                     have c30b0 : (t183 == 0) = true := beq_iff_eq.mpr c30
                     have c30b1 : (t183 != 0) = false := bne_eq_false_iff_eq.mpr c30
                     clear c30
                     replace H := Option.bind_eq_some_iff.mp H
                     obtain ⟨t184, A310, H⟩ := H
                     replace H : (some t184) = some r := H
                     have A31 := Aside0.mk A310
                     clear A310
                     obtain rfl := Option.some.inj H
                     (try simp only [ByteArray.size_extract, Nat.min_self] at c17b1)
                     (try simp only [ByteArray.size_extract, Nat.min_self] at c17b2)
                     (try simp only [ByteArray.size_extract, Nat.min_self] at c18b1)
                     (try simp only [ByteArray.size_extract, Nat.min_self] at c18b2)
                     (try simp only [ByteArray.size_extract, Nat.min_self] at c20b1)
                     (try simp only [ByteArray.size_extract, Nat.min_self] at c20b2)
                     (try simp only [ByteArray.size_extract, Nat.min_self] at c21b1)
                     (try simp only [ByteArray.size_extract, Nat.min_self] at c21b2)
                     (try simp only [ByteArray.size_extract, Nat.min_self] at c24b1)
                     (try simp only [ByteArray.size_extract, Nat.min_self] at c24b2)
                     (try simp only [ByteArray.size_extract, Nat.min_self] at c25b1)
                     (try simp only [ByteArray.size_extract, Nat.min_self] at c25b2)
                     (try simp only [ByteArray.size_extract, Nat.min_self] at c26b1)
                     (try simp only [ByteArray.size_extract, Nat.min_self] at c26b2)
                     (try simp only [ByteArray.size_extract, Nat.min_self] at c27b1)
                     (try simp only [ByteArray.size_extract, Nat.min_self] at c27b2)
                     go_enter Tryd.func4, Tryd.ntmps4
                     try go_wp2_with (first | ((with_reducible refine gate_callee (f := 10) rfl ?_); refine goesL_ (some 13) rfl rfl Tryd.func10 (by kernel_rfl) rfl #[] rfl (by (try simp only [List.map_toArray, List.map_cons, List.map_nil]); first | done | rfl | (simp only [List.length_drop, List.length_take]; rfl)) ?_; (with_reducible refine (stolelaw5_awake.calls k  true _ (tabs_below HT.out (by repeat (first | (with_reducible first | exact HB.out | apply below_alloc | apply pw_below_drewN | apply below_drew1) | exact HB.out))) A4.out rfl).mono ?_); rintro e w32 ⟨rfl, hb⟩; refine ⟨_, rfl, ?_⟩; have n0_ := Aside0.mk (below_step (by repeat (first | (with_reducible first | exact HB.out | apply below_alloc | apply pw_below_drewN | apply below_drew1) | exact HB.out)) hb); clear HB; have HB := n0_; clear n0_; (try clear hb); (try clear hb2); (try clear hk); (try clear hi)) | ((with_reducible refine gate_dst (N := 15) rfl ?_); refine Kd.R_lit Kd.string _ 9 ?hg (N := 15) ?hd (xs := ([(⟨#[115, 99, 114, 105, 112, 116]⟩ : ByteArray), (⟨#[115, 116, 121, 108, 101]⟩ : ByteArray), (⟨#[116, 105, 116, 108, 101]⟩ : ByteArray), (⟨#[116, 101, 120, 116, 97, 114, 101, 97]⟩ : ByteArray)] : List ByteArray)) (inner := [.string (⟨#[115, 99, 114, 105, 112, 116]⟩ : ByteArray), .string (⟨#[115, 116, 121, 108, 101]⟩ : ByteArray), .string (⟨#[116, 105, 116, 108, 101]⟩ : ByteArray), .string (⟨#[116, 101, 120, 116, 97, 114, 101, 97]⟩ : ByteArray)]) (ok := fun _ => True) (okp := fun _ => True) ?hr ?hp (fun _ hk => hk) trivial (Below.refl _ _) (Nat.le_refl _) (by simp) ?_; (case hd => rfl); (case hg => rfl); (case hr => first | (go_simp; done) | (go_simp; rfl)); (case hp => exact (Reps.one (show Kd.M Kd.string _ _ _ (⟨#[115, 99, 114, 105, 112, 116]⟩ : ByteArray) [.string (⟨#[115, 99, 114, 105, 112, 116]⟩ : ByteArray)] from rfl) (Reps.one (show Kd.M Kd.string _ _ _ (⟨#[115, 116, 121, 108, 101]⟩ : ByteArray) [.string (⟨#[115, 116, 121, 108, 101]⟩ : ByteArray)] from rfl) (Reps.one (show Kd.M Kd.string _ _ _ (⟨#[116, 105, 116, 108, 101]⟩ : ByteArray) [.string (⟨#[116, 105, 116, 108, 101]⟩ : ByteArray)] from rfl) (Reps.one (show Kd.M Kd.string _ _ _ (⟨#[116, 101, 120, 116, 97, 114, 101, 97]⟩ : ByteArray) [.string (⟨#[116, 101, 120, 116, 97, 114, 101, 97]⟩ : ByteArray)] from rfl) (Reps.none _ _)))))); intro v166 w33 ho34 hb hg_ hnew_; clear hg_ hnew_; (first | rw [← Ny165.out] at ho34 | (simp only [Int.reduceToNat] at ho34; rw [← Ny165.out] at ho34)); have n0_ := Aside0.mk (Kd.R_lower ho34 (below_size (by repeat (first | (with_reducible first | exact HB.out | apply below_alloc | apply pw_below_drewN | apply below_drew1) | exact HB.out)))); have n1_ := Aside0.mk (below_step (by repeat (first | (with_reducible first | exact HB.out | apply below_alloc | apply pw_below_drewN | apply below_drew1) | exact HB.out)) hb); clear HB; have HO167 := n0_; have HB := n1_; clear n0_ n1_; clear hb ho34))
                     have n0_ := Aside0.mk (Kd.R_drew HO167.out)
                     have n1_ := Aside0.mk (below_drew1 HB.out)
                     clear HO167
                     clear HB
                     have HO167 := n0_
                     have HB := n1_
                     clear n0_ n1_
                     obtain ⟨Ao36, co36, eo36⟩ := Kd.R_slice HO167.out
                     (first | subst eo36 | (injection eo36 with f1_ f2_ f3_; have f4_ := f1_.symm; have f5_ := f3_.symm; clear f1_ f2_ f3_; subst f4_; subst f5_))
                     have p169 : 0 ≤ ((ji8) : Int) := of_decide_eq_true (by first | (with_reducible assumption) | assumption)
                     have q169 : (ji8) < (y165.length : Int) := of_decide_eq_true (by first | (with_reducible assumption) | assumption)
                     obtain ⟨ad169, e169, hx169_0⟩ := Kd.at_string (Kd.R_reads' HO167.out).2.2 (ji8) p169 q169
                     cases e169
                     replace p169 := eq_true p169
                     replace q169 := eq_true q169
                     have p170 : 0 ≤ ((ji13) : Int) := of_decide_eq_true (by first | (with_reducible assumption) | assumption)
                     have q170 : (ji13) < (y165.length : Int) := of_decide_eq_true (by first | (with_reducible assumption) | assumption)
                     obtain ⟨ad170, e170, hx170_0⟩ := Kd.at_string (Kd.R_reads' HO167.out).2.2 (ji13) p170 q170
                     obtain rfl : ad169 = ad170 := (by injection e170)
                     replace p170 := eq_true p170
                     replace q170 := eq_true q170
                     refine start_ (n := 23) (S := fun w' => w'.cell? (ad169.add ((ji8)).toNat) = some (.string (rdOf ByteArray.empty y165 (ji8))) ∧ w'.cell? (ad169.add ((ji13)).toNat) = some (.string (rdOf ByteArray.empty y165 (ji13)))) (ds := []) #[F,F,F,F,F,F,F,F,F,F,F,F,F,F,F,F,F,F,F,F,F,F,F] (by kernel_rfl) rfl rfl ⟨hx169_0, hx170_0⟩ (fun hHeld => ?_); refine with_tabW stolelaw5_TokenHeld.tab5 stolelaw5_TokenHeld.bits5 (fun HT_ HW_ => ?_)
                     generalize w33.drew = w35 at HO167 HB hx169_0 hx170_0 hHeld ⊢
                     refine pS 0 20 #[T,F,F,F,F,F,F,F,F,F,F,F,F,F,F,F,F,F,F,F,F,F,F] ?_ (hc := any_of HT_.out (by kernel_rfl))
                     refine pS 3 23 #[T,F,F,T,F,F,F,F,F,F,F,F,F,F,F,F,F,F,F,F,F,F,F] ?_ (hc := any_of HT_.out (by kernel_rfl))
                     refine pS 4 24 #[T,F,F,T,T,F,F,F,F,F,F,F,F,F,F,F,F,F,F,F,F,F,F] ?_ (hc := any_of HT_.out (by kernel_rfl))
                     refine pS 5 25 #[T,F,F,T,T,T,F,F,F,F,F,F,F,F,F,F,F,F,F,F,F,F,F] ?_ (hc := any_of HT_.out (by kernel_rfl))
                     refine pS 6 26 #[T,F,F,T,T,T,T,F,F,F,F,F,F,F,F,F,F,F,F,F,F,F,F] ?_ (hc := any_of HT_.out (by kernel_rfl))
                     refine pS 7 27 #[T,F,F,T,T,T,T,T,F,F,F,F,F,F,F,F,F,F,F,F,F,F,F] ?_ (hc := any_of HT_.out (by kernel_rfl))
                     refine pS 11 31 #[T,F,F,T,T,T,T,T,F,F,F,T,F,F,F,F,F,F,F,F,F,F,F] ?_ (hc := any_of HT_.out (by kernel_rfl))
                     refine pS 12 32 #[T,F,F,T,T,T,T,T,F,F,F,T,T,F,F,F,F,F,F,F,F,F,F] ?_ (hc := any_of HT_.out (by kernel_rfl))
                     refine pS 13 33 #[T,F,F,T,T,T,T,T,F,F,F,T,T,T,F,F,F,F,F,F,F,F,F] ?_ (hc := any_of HT_.out (by kernel_rfl))
                     refine pS 18 38 #[T,F,F,T,T,T,T,T,F,F,F,T,T,T,F,F,F,F,T,F,F,F,F] ?_ (hc := any_of HT_.out (by kernel_rfl))
                     refine take_ (i := 8) (N := some 28) (v := ?_) (a' := ?_) #[T,F,F,T,T,T,T,T,T,F,F,T,T,T,F,F,F,F,T,F,F,F,F] rfl rfl (take_ofW HT_.out HW_.out (by kernel_rfl)) (fun _ _ _ h => h) (Or.inl ⟨by rfl, ?_⟩) hHeld ?_ ?_
                     rotate_left
                     ·rintro w' ⟨s0, s1⟩
                      go_simp
                      with_reducible rfl
                     rotate_left
                     ·simp only [Act.put, zA, zZ, zS, i64_w, i32_w]
                      rfl
                     refine take_ (i := 14) (N := some 34) (v := ?_) (a' := ?_) #[T,F,F,T,T,T,T,T,T,F,F,T,T,T,T,F,F,F,T,F,F,F,F] rfl rfl (take_ofW HT_.out HW_.out (by kernel_rfl)) (fun _ _ _ h => h) (Or.inl ⟨by rfl, ?_⟩) hHeld ?_ ?_
                     rotate_left
                     ·rintro w' ⟨s0, s1⟩
                      go_simp
                      with_reducible rfl
                     rotate_left
                     ·simp only [Act.put, zA, zZ, zS, i64_w, i32_w]
                      rfl
                     refine pS 15 35 #[T,F,F,T,T,T,T,T,T,F,F,T,T,T,T,T,F,F,T,F,F,F,F] ?_ (hc := any_of HT_.out (by kernel_rfl))
                     refine one_ (i := 1) (N := some 21) #[T,T,F,T,T,T,T,T,T,F,F,T,T,T,T,T,F,F,T,F,F,F,F] rfl rfl (one_of HT_.out (by kernel_rfl)) (by decide) (fun K hK => ?_)
                     refine goes_ Tryd.func13 (by kernel_rfl) rfl #[.string a1, .int .u8 0] (by rfl) rfl rfl (by (try simp only [List.map_toArray, List.map_cons, List.map_nil]); first | done | rfl | (simp only [List.length_drop, List.length_take]; rfl)) ?_
                     with_reducible refine (stolelaw5_quiet.calls k a1 0 t168 _ A6.out).mono ?_
                     rintro e w' ⟨rfl, ⟨nd, rfl⟩⟩
                     refine ⟨_, rfl, ?_⟩
                     refine hK.out _ _ ⟨hHeld.1, hHeld.2⟩ (fun hHeld => ?_)
                     clear hK K
                     refine norm_ (a' := ?_) ?_ ?_
                     rotate_left
                     ·show Act.put _ (some 21) _ = _
                      simp only [Act.put, zA, zZ, zS, i64_w, i32_w]
                      rfl
                     refine pS 2 22 #[T,T,T,T,T,T,T,T,T,F,F,T,T,T,T,T,F,F,T,F,F,F,F] ?_ (hc := any_of HT_.out (by kernel_rfl))
                     refine pS 9 29 #[T,T,T,T,T,T,T,T,T,T,F,T,T,T,T,T,F,F,T,F,F,F,F] ?_ (hc := any_of HT_.out (by kernel_rfl))
                     refine pS 10 30 #[T,T,T,T,T,T,T,T,T,T,T,T,T,T,T,T,F,F,T,F,F,F,F] ?_ (hc := any_of HT_.out (by kernel_rfl))
                     refine pS 16 36 #[T,T,T,T,T,T,T,T,T,T,T,T,T,T,T,T,T,F,T,F,F,F,F] ?_ (hc := any_of HT_.out (by kernel_rfl))
                     refine pS 17 37 #[T,T,T,T,T,T,T,T,T,T,T,T,T,T,T,T,T,T,T,F,F,F,F] ?_ (hc := any_of HT_.out (by kernel_rfl))
                     refine one_ (i := 19) (N := some 39) #[T,T,T,T,T,T,T,T,T,T,T,T,T,T,T,T,T,T,T,T,F,F,F] rfl rfl (one_of HT_.out (by kernel_rfl)) (by decide) (fun K hK => ?_)
                     refine goes_ Tryd.func13 (by kernel_rfl) rfl #[.string a2, .int .u8 0] (by rfl) rfl rfl (by (try simp only [List.map_toArray, List.map_cons, List.map_nil]); first | done | rfl | (simp only [List.length_drop, List.length_take]; rfl)) ?_
                     with_reducible refine (stolelaw5_quiet.calls k a2 0 t171 _ A19.out).mono ?_
                     rintro e w' ⟨rfl, ⟨nd, rfl⟩⟩
                     refine ⟨_, rfl, ?_⟩
                     refine hK.out _ _ ⟨hHeld.1, hHeld.2⟩ (fun hHeld => ?_)
                     clear hK K
                     refine norm_ (a' := ?_) ?_ ?_
                     rotate_left
                     ·show Act.put _ (some 39) _ = _
                      simp only [Act.put, zA, zZ, zS, i64_w, i32_w]
                      rfl
                     refine pS 20 40 #[T,T,T,T,T,T,T,T,T,T,T,T,T,T,T,T,T,T,T,T,T,F,F] ?_ (hc := any_of HT_.out (by kernel_rfl))
                     refine pS 21 41 #[T,T,T,T,T,T,T,T,T,T,T,T,T,T,T,T,T,T,T,T,T,T,F] ?_ (hc := any_of HT_.out (by kernel_rfl))
                     refine pS 22 9 #[T,T,T,T,T,T,T,T,T,T,T,T,T,T,T,T,T,T,T,T,T,T,T] ?_ (hc := any_of HT_.out (by kernel_rfl))
                     refine done_ (done_of HT_.out (by kernel_rfl)) ?_
                     try go_wp2
                     (try (rw [drewN_self w35]; generalize hq_ : World.drewN w35 _ = w35; have n0_ : Aside0 (Kd.R Kd.string 9 w35 w.heap.size (fun _ => True) (.slice (some ad169) y165.length co36) y165) := ⟨by rw [← hq_]; exact (by (with_reducible repeat (first | apply Kd.R_alloc | apply Kd.R_drewN | apply Kd.R_drew)); exact HO167.out)⟩; have n1_ : Aside0 (Below w.heap.size w w35) := ⟨by rw [← hq_]; exact (by repeat (first | (with_reducible first | exact HB.out | apply below_alloc | apply pw_below_drewN | apply below_drew1) | exact HB.out))⟩; clear HO167 HB hq_; have HO167 := n0_; have HB := n1_; clear n0_ n1_))
                     have n0_ := Aside0.mk (Kd.R_drew HO167.out)
                     have n1_ := Aside0.mk (below_drew1 HB.out)
                     clear HO167
                     clear HB
                     have HO167 := n0_
                     have HB := n1_
                     clear n0_ n1_
                     have p172 : 0 ≤ ((ji13) : Int) := of_decide_eq_true (by first | (with_reducible assumption) | assumption)
                     have q172 : (ji13) < (y165.length : Int) := of_decide_eq_true (by first | (with_reducible assumption) | assumption)
                     obtain ⟨ad172, e172, hx172_0⟩ := Kd.at_string (Kd.R_reads' HO167.out).2.2 (ji13) p172 q172
                     obtain rfl : ad169 = ad172 := (by injection e172)
                     replace p172 := eq_true p172
                     replace q172 := eq_true q172
                     have p173 : 0 ≤ ((ji13) : Int) := of_decide_eq_true (by first | (with_reducible assumption) | assumption)
                     have q173 : (ji13) < (y165.length : Int) := of_decide_eq_true (by first | (with_reducible assumption) | assumption)
                     obtain ⟨ad173, e173, hx173_0⟩ := Kd.at_string (Kd.R_reads' HO167.out).2.2 (ji13) p173 q173
                     obtain rfl : ad169 = ad173 := (by injection e173)
                     replace p173 := eq_true p173
                     replace q173 := eq_true q173
                     refine start_ (n := 21) (S := fun w' => w'.cell? (ad169.add ((ji13)).toNat) = some (.string (rdOf ByteArray.empty y165 (ji13))) ∧ w'.cell? (ad169.add ((ji13)).toNat) = some (.string (rdOf ByteArray.empty y165 (ji13)))) (ds := []) #[F,F,F,F,F,F,F,F,F,F,F,F,F,F,F,F,F,F,F,F,F] (by kernel_rfl) rfl rfl ⟨hx172_0, hx173_0⟩ (fun hHeld => ?_); refine with_tabW stolelaw5_TokenHeld.tab6 stolelaw5_TokenHeld.bits6 (fun HT_ HW_ => ?_)
                     generalize w35.drew = w37 at HO167 HB hx172_0 hx173_0 hHeld ⊢
                     refine pS 0 43 #[T,F,F,F,F,F,F,F,F,F,F,F,F,F,F,F,F,F,F,F,F] ?_ (hc := any_of HT_.out (by kernel_rfl))
                     refine pS 1 44 #[T,T,F,F,F,F,F,F,F,F,F,F,F,F,F,F,F,F,F,F,F] ?_ (hc := any_of HT_.out (by kernel_rfl))
                     refine pS 2 45 #[T,T,T,F,F,F,F,F,F,F,F,F,F,F,F,F,F,F,F,F,F] ?_ (hc := any_of HT_.out (by kernel_rfl))
                     refine pS 6 49 #[T,T,T,F,F,F,T,F,F,F,F,F,F,F,F,F,F,F,F,F,F] ?_ (hc := any_of HT_.out (by kernel_rfl))
                     refine pS 9 52 #[T,T,T,F,F,F,T,F,F,T,F,F,F,F,F,F,F,F,F,F,F] ?_ (hc := any_of HT_.out (by kernel_rfl))
                     refine pS 10 53 #[T,T,T,F,F,F,T,F,F,T,T,F,F,F,F,F,F,F,F,F,F] ?_ (hc := any_of HT_.out (by kernel_rfl))
                     refine pS 11 54 #[T,T,T,F,F,F,T,F,F,T,T,T,F,F,F,F,F,F,F,F,F] ?_ (hc := any_of HT_.out (by kernel_rfl))
                     refine take_ (i := 3) (N := some 46) (v := ?_) (a' := ?_) #[T,T,T,T,F,F,T,F,F,T,T,T,F,F,F,F,F,F,F,F,F] rfl rfl (take_ofW HT_.out HW_.out (by kernel_rfl)) (fun _ _ _ h => h) (Or.inl ⟨by rfl, ?_⟩) hHeld ?_ ?_
                     rotate_left
                     ·rintro w' ⟨s0, s1⟩
                      go_simp
                      with_reducible rfl
                     rotate_left
                     ·simp only [Act.put, zA, zZ, zS, i64_w, i32_w]
                      rfl
                     refine pS 4 47 #[T,T,T,T,T,F,T,F,F,T,T,T,F,F,F,F,F,F,F,F,F] ?_ (hc := any_of HT_.out (by kernel_rfl))
                     refine pS 5 48 #[T,T,T,T,T,T,T,F,F,T,T,T,F,F,F,F,F,F,F,F,F] ?_ (hc := any_of HT_.out (by kernel_rfl))
                     refine pS 7 50 #[T,T,T,T,T,T,T,T,F,T,T,T,F,F,F,F,F,F,F,F,F] ?_ (hc := any_of HT_.out (by kernel_rfl))
                     refine pS 8 51 #[T,T,T,T,T,T,T,T,T,T,T,T,F,F,F,F,F,F,F,F,F] ?_ (hc := any_of HT_.out (by kernel_rfl))
                     refine take_ (i := 12) (N := some 55) (v := ?_) (a' := ?_) #[T,T,T,T,T,T,T,T,T,T,T,T,T,F,F,F,F,F,F,F,F] rfl rfl (take_ofW HT_.out HW_.out (by kernel_rfl)) (fun _ _ _ h => h) (Or.inl ⟨by rfl, ?_⟩) hHeld ?_ ?_
                     rotate_left
                     ·rintro w' ⟨s0, s1⟩
                      go_simp
                      with_reducible rfl
                     rotate_left
                     ·simp only [Act.put, zA, zZ, zS, i64_w, i32_w]
                      rfl
                     refine pS 13 56 #[T,T,T,T,T,T,T,T,T,T,T,T,T,T,F,F,F,F,F,F,F] ?_ (hc := any_of HT_.out (by kernel_rfl))
                     refine pS 14 57 #[T,T,T,T,T,T,T,T,T,T,T,T,T,T,T,F,F,F,F,F,F] ?_ (hc := any_of HT_.out (by kernel_rfl))
                     refine one_ (i := 15) (N := some 58) #[T,T,T,T,T,T,T,T,T,T,T,T,T,T,T,T,F,F,F,F,F] rfl rfl (one_of HT_.out (by kernel_rfl)) (by decide) (fun K hK => ?_)
                     refine goes_ Tryd.func11 (by kernel_rfl) rfl #[.string (((((((⟨#[60]⟩ : ByteArray) ++ (rdOf ByteArray.empty y165 (ji13))) ++ (⟨#[62]⟩ : ByteArray)) ++ (((((((t168 ++ (⟨#[60, 112, 62, 60, 47]⟩ : ByteArray)) ++ (rdOf ByteArray.empty y165 (ji8))) ++ (⟨#[62, 60, 47]⟩ : ByteArray)) ++ ((rdOf ByteArray.empty y165 (ji13)).extract 1 (rdOf ByteArray.empty y165 (ji13)).size)) ++ (⟨#[62]⟩ : ByteArray)) ++ t171) ++ (⟨#[60]⟩ : ByteArray))) ++ (⟨#[60, 47]⟩ : ByteArray)) ++ (rdOf ByteArray.empty y165 (ji13))) ++ (⟨#[32, 120, 62, 121]⟩ : ByteArray))] (by rfl) rfl rfl (by (try simp only [List.map_toArray, List.map_cons, List.map_nil]); first | done | (simp only [hji13, hji8]; rfl) | rfl | (simp only [List.length_drop, List.length_take]; rfl)) ?_
                     with_reducible refine (tok_Tokens.calls (((((((⟨#[60]⟩ : ByteArray) ++ (rdOf ByteArray.empty y165 (ji13))) ++ (⟨#[62]⟩ : ByteArray)) ++ (((((((t168 ++ (⟨#[60, 112, 62, 60, 47]⟩ : ByteArray)) ++ (rdOf ByteArray.empty y165 (ji8))) ++ (⟨#[62, 60, 47]⟩ : ByteArray)) ++ ((rdOf ByteArray.empty y165 (ji13)).extract 1 (rdOf ByteArray.empty y165 (ji13)).size)) ++ (⟨#[62]⟩ : ByteArray)) ++ t171) ++ (⟨#[60]⟩ : ByteArray))) ++ (⟨#[60, 47]⟩ : ByteArray)) ++ (rdOf ByteArray.empty y165 (ji13))) ++ (⟨#[32, 120, 62, 121]⟩ : ByteArray)) t174 t175 _ (tabs_below HT.out (by repeat (first | (with_reducible first | exact HB.out | apply below_alloc | apply pw_below_drewN | apply below_drew1) | exact HB.out))) A28.out).mono ?_
                     rintro e w38 ⟨v176, rfl, ho0, hb⟩
                     have HS0_ := (hb.cell (World.block_lt_of_cell? _ _ (hHeld.1))).trans (hHeld.1)
                     have HS1_ := (hb.cell (World.block_lt_of_cell? _ _ (hHeld.2))).trans (hHeld.2)
                     refine ⟨_, rfl, ?_⟩
                     have n0_ := Aside0.mk (Kd.R_below (by (with_reducible repeat (first | apply Kd.R_alloc | apply Kd.R_drewN | apply Kd.R_drew)); exact HO167.out) hb)
                     have n1_ := Aside0.mk (Kd.S_lower ho0 (below_size (by repeat (first | (with_reducible first | exact HB.out | apply below_alloc | apply pw_below_drewN | apply below_drew1) | exact HB.out))))
                     have n2_ := Aside0.mk (below_step (by repeat (first | (with_reducible first | exact HB.out | apply below_alloc | apply pw_below_drewN | apply below_drew1) | exact HB.out)) hb)
                     clear HO167
                     clear HB
                     have HO167 := n0_
                     have HO177 := n1_
                     have HB := n2_
                     clear n0_ n1_ n2_
                     (try clear hb)
                     (try clear hb2)
                     (try clear hk)
                     (try clear hi)
                     (try clear ho0)
                     refine hK.out _ _ ⟨HS0_, HS1_⟩ (fun hHeld => ?_)
                     clear hK K
                     refine norm_ (a' := ?_) ?_ ?_
                     rotate_left
                     ·show Act.put _ (some 58) _ = _
                      simp only [Act.put, zA, zZ, zS, i64_w, i32_w]
                      rfl
                     refine pS 16 42 #[T,T,T,T,T,T,T,T,T,T,T,T,T,T,T,T,T,F,F,F,F] ?_ (hc := any_of HT_.out (by kernel_rfl))
                     refine pS 17 59 #[T,T,T,T,T,T,T,T,T,T,T,T,T,T,T,T,T,T,F,F,F] ?_ (hc := any_of HT_.out (by kernel_rfl))
                     refine pS 18 60 #[T,T,T,T,T,T,T,T,T,T,T,T,T,T,T,T,T,T,T,F,F] ?_ (hc := any_of HT_.out (by kernel_rfl))
                     refine pS 19 10 #[T,T,T,T,T,T,T,T,T,T,T,T,T,T,T,T,T,T,T,T,F] ?_ (hc := any_of HT_.out (by kernel_rfl))
                     refine pS 20 11 #[T,T,T,T,T,T,T,T,T,T,T,T,T,T,T,T,T,T,T,T,T] ?_ (hc := any_of HT_.out (by kernel_rfl))
                     refine done_ (done_of HT_.out (by kernel_rfl)) ?_
                     try go_wp2
                     have n0_ := Aside0.mk (Kd.R_drew HO167.out)
                     have n1_ := Aside0.mk (Kd.S_drew HO177.out)
                     have n2_ := Aside0.mk (below_drew1 HB.out)
                     clear HO167
                     clear HO177
                     clear HB
                     have HO167 := n0_
                     have HO177 := n1_
                     have HB := n2_
                     clear n0_ n1_ n2_
                     have p178 : 0 ≤ ((ji13) : Int) := of_decide_eq_true (by first | (with_reducible assumption) | assumption)
                     have q178 : (ji13) < (y165.length : Int) := of_decide_eq_true (by first | (with_reducible assumption) | assumption)
                     obtain ⟨ad178, e178, hx178_0⟩ := Kd.at_string (Kd.R_reads' HO167.out).2.2 (ji13) p178 q178
                     obtain rfl : ad169 = ad178 := (by injection e178)
                     replace p178 := eq_true p178
                     replace q178 := eq_true q178
                     have p179 : 0 ≤ ((ji13) : Int) := of_decide_eq_true (by first | (with_reducible assumption) | assumption)
                     have q179 : (ji13) < (y165.length : Int) := of_decide_eq_true (by first | (with_reducible assumption) | assumption)
                     obtain ⟨ad179, e179, hx179_0⟩ := Kd.at_string (Kd.R_reads' HO167.out).2.2 (ji13) p179 q179
                     obtain rfl : ad169 = ad179 := (by injection e179)
                     replace p179 := eq_true p179
                     replace q179 := eq_true q179
                     refine start_ (n := 15) (S := fun w' => w'.cell? (ad169.add ((ji13)).toNat) = some (.string (rdOf ByteArray.empty y165 (ji13))) ∧ w'.cell? (ad169.add ((ji13)).toNat) = some (.string (rdOf ByteArray.empty y165 (ji13)))) (ds := []) #[F,F,F,F,F,F,F,F,F,F,F,F,F,F,F] (by kernel_rfl) rfl rfl ⟨hx178_0, hx179_0⟩ (fun hHeld => ?_); refine with_tabW stolelaw5_TokenHeld.tab7 stolelaw5_TokenHeld.bits7 (fun HT_ HW_ => ?_)
                     generalize w38.drew = w39 at HO167 HO177 HB hx178_0 hx179_0 hHeld ⊢
                     refine pS 0 61 #[T,F,F,F,F,F,F,F,F,F,F,F,F,F,F] ?_ (hc := any_of HT_.out (by kernel_rfl))
                     refine pS 1 62 #[T,T,F,F,F,F,F,F,F,F,F,F,F,F,F] ?_ (hc := any_of HT_.out (by kernel_rfl))
                     refine pS 2 63 #[T,T,T,F,F,F,F,F,F,F,F,F,F,F,F] ?_ (hc := any_of HT_.out (by kernel_rfl))
                     refine pS 5 66 #[T,T,T,F,F,T,F,F,F,F,F,F,F,F,F] ?_ (hc := any_of HT_.out (by kernel_rfl))
                     refine pS 6 67 #[T,T,T,F,F,T,T,F,F,F,F,F,F,F,F] ?_ (hc := any_of HT_.out (by kernel_rfl))
                     refine pS 7 68 #[T,T,T,F,F,T,T,T,F,F,F,F,F,F,F] ?_ (hc := any_of HT_.out (by kernel_rfl))
                     refine pS 8 69 #[T,T,T,F,F,T,T,T,T,F,F,F,F,F,F] ?_ (hc := any_of HT_.out (by kernel_rfl))
                     refine pS 9 70 #[T,T,T,F,F,T,T,T,T,T,F,F,F,F,F] ?_ (hc := any_of HT_.out (by kernel_rfl))
                     refine pS 12 73 #[T,T,T,F,F,T,T,T,T,T,F,F,T,F,F] ?_ (hc := any_of HT_.out (by kernel_rfl))
                     refine take_ (i := 3) (N := some 64) (v := ?_) (a' := ?_) #[T,T,T,T,F,T,T,T,T,T,F,F,T,F,F] rfl rfl (take_ofW HT_.out HW_.out (by kernel_rfl)) (fun _ _ _ h => h) (Or.inl ⟨by rfl, ?_⟩) hHeld ?_ ?_
                     rotate_left
                     ·rintro w' ⟨s0, s1⟩
                      go_simp
                      with_reducible rfl
                     rotate_left
                     ·simp only [Act.put, zA, zZ, zS, i64_w, i32_w]
                      rfl
                     refine pS 4 65 #[T,T,T,T,T,T,T,T,T,T,F,F,T,F,F] ?_ (hc := any_of HT_.out (by kernel_rfl))
                     refine take_ (i := 10) (N := some 71) (v := ?_) (a' := ?_) #[T,T,T,T,T,T,T,T,T,T,T,F,T,F,F] rfl rfl (take_ofW HT_.out HW_.out (by kernel_rfl)) (fun _ _ _ h => h) (Or.inl ⟨by rfl, ?_⟩) hHeld ?_ ?_
                     rotate_left
                     ·rintro w' ⟨s0, s1⟩
                      go_simp
                      with_reducible rfl
                     rotate_left
                     ·simp only [Act.put, zA, zZ, zS, i64_w, i32_w]
                      rfl
                     refine pS 11 72 #[T,T,T,T,T,T,T,T,T,T,T,T,T,F,F] ?_ (hc := any_of HT_.out (by kernel_rfl))
                     refine one_ (i := 13) (N := some 74) #[T,T,T,T,T,T,T,T,T,T,T,T,T,T,F] rfl rfl (one_of HT_.out (by kernel_rfl)) (by decide) (fun K hK => ?_)
                     refine Kd.S_lit_step k30 _ 30 ?hg (N := 74) ?hd (xs := ([(⟨1, rdOf ByteArray.empty y165 (ji13), (⟨#[]⟩ : ByteArray), ([] : List (S47)), false⟩ : S30), (⟨0, (⟨#[]⟩ : ByteArray), ((((((t168 ++ (⟨#[60, 112, 62, 60, 47]⟩ : ByteArray)) ++ (rdOf ByteArray.empty y165 (ji8))) ++ (⟨#[62, 60, 47]⟩ : ByteArray)) ++ ((rdOf ByteArray.empty y165 (ji13)).extract 1 (rdOf ByteArray.empty y165 (ji13)).size)) ++ (⟨#[62]⟩ : ByteArray)) ++ t171) ++ (⟨#[60]⟩ : ByteArray), ([] : List (S47)), false⟩ : S30), (⟨2, rdOf ByteArray.empty y165 (ji13), (⟨#[]⟩ : ByteArray), ([] : List (S47)), false⟩ : S30), (⟨0, (⟨#[]⟩ : ByteArray), (⟨#[121]⟩ : ByteArray), ([] : List (S47)), false⟩ : S30)] : List (S30))) (inner := [.int .i64 1, .string (rdOf ByteArray.empty y165 (ji13)), .string (⟨#[]⟩ : ByteArray), .slice none 0 0, .bool false, .int .i64 0, .string (⟨#[]⟩ : ByteArray), .string (((((((t168 ++ (⟨#[60, 112, 62, 60, 47]⟩ : ByteArray)) ++ (rdOf ByteArray.empty y165 (ji8))) ++ (⟨#[62, 60, 47]⟩ : ByteArray)) ++ ((rdOf ByteArray.empty y165 (ji13)).extract 1 (rdOf ByteArray.empty y165 (ji13)).size)) ++ (⟨#[62]⟩ : ByteArray)) ++ t171) ++ (⟨#[60]⟩ : ByteArray)), .slice none 0 0, .bool false, .int .i64 2, .string (rdOf ByteArray.empty y165 (ji13)), .string (⟨#[]⟩ : ByteArray), .slice none 0 0, .bool false, .int .i64 0, .string (⟨#[]⟩ : ByteArray), .string (⟨#[121]⟩ : ByteArray), .slice none 0 0, .bool false]) (ok := fun _ => True) (okp := fun _ => True) ?hr ?hp (fun _ hk => hk) trivial (Below.refl _ _) (Nat.le_refl _) (by simp) ?_; (case hd => rfl); (case hg => rfl); (case hr => first | (go_simp; done) | (go_simp; rfl)); (case hp => exact (Reps.c5 (show Kd.M k30 _ _ _ (⟨1, rdOf ByteArray.empty y165 (ji13), (⟨#[]⟩ : ByteArray), ([] : List (S47)), false⟩ : S30) [.int .i64 1, .string (rdOf ByteArray.empty y165 (ji13)), .string (⟨#[]⟩ : ByteArray), .slice none 0 0, .bool false] from (k30_mkM _ _ _ (⟨1, rdOf ByteArray.empty y165 (ji13), (⟨#[]⟩ : ByteArray), ([] : List (S47)), false⟩ : S30) (Kd.R_nil _ _ _ _ _))) (Reps.c5 (show Kd.M k30 _ _ _ (⟨0, (⟨#[]⟩ : ByteArray), ((((((t168 ++ (⟨#[60, 112, 62, 60, 47]⟩ : ByteArray)) ++ (rdOf ByteArray.empty y165 (ji8))) ++ (⟨#[62, 60, 47]⟩ : ByteArray)) ++ ((rdOf ByteArray.empty y165 (ji13)).extract 1 (rdOf ByteArray.empty y165 (ji13)).size)) ++ (⟨#[62]⟩ : ByteArray)) ++ t171) ++ (⟨#[60]⟩ : ByteArray), ([] : List (S47)), false⟩ : S30) [.int .i64 0, .string (⟨#[]⟩ : ByteArray), .string (((((((t168 ++ (⟨#[60, 112, 62, 60, 47]⟩ : ByteArray)) ++ (rdOf ByteArray.empty y165 (ji8))) ++ (⟨#[62, 60, 47]⟩ : ByteArray)) ++ ((rdOf ByteArray.empty y165 (ji13)).extract 1 (rdOf ByteArray.empty y165 (ji13)).size)) ++ (⟨#[62]⟩ : ByteArray)) ++ t171) ++ (⟨#[60]⟩ : ByteArray)), .slice none 0 0, .bool false] from (k30_mkM _ _ _ (⟨0, (⟨#[]⟩ : ByteArray), ((((((t168 ++ (⟨#[60, 112, 62, 60, 47]⟩ : ByteArray)) ++ (rdOf ByteArray.empty y165 (ji8))) ++ (⟨#[62, 60, 47]⟩ : ByteArray)) ++ ((rdOf ByteArray.empty y165 (ji13)).extract 1 (rdOf ByteArray.empty y165 (ji13)).size)) ++ (⟨#[62]⟩ : ByteArray)) ++ t171) ++ (⟨#[60]⟩ : ByteArray), ([] : List (S47)), false⟩ : S30) (Kd.R_nil _ _ _ _ _))) (Reps.c5 (show Kd.M k30 _ _ _ (⟨2, rdOf ByteArray.empty y165 (ji13), (⟨#[]⟩ : ByteArray), ([] : List (S47)), false⟩ : S30) [.int .i64 2, .string (rdOf ByteArray.empty y165 (ji13)), .string (⟨#[]⟩ : ByteArray), .slice none 0 0, .bool false] from (k30_mkM _ _ _ (⟨2, rdOf ByteArray.empty y165 (ji13), (⟨#[]⟩ : ByteArray), ([] : List (S47)), false⟩ : S30) (Kd.R_nil _ _ _ _ _))) (Reps.c5 (show Kd.M k30 _ _ _ (⟨0, (⟨#[]⟩ : ByteArray), (⟨#[121]⟩ : ByteArray), ([] : List (S47)), false⟩ : S30) [.int .i64 0, .string (⟨#[]⟩ : ByteArray), .string (⟨#[121]⟩ : ByteArray), .slice none 0 0, .bool false] from (k30_mkM _ _ _ (⟨0, (⟨#[]⟩ : ByteArray), (⟨#[121]⟩ : ByteArray), ([] : List (S47)), false⟩ : S30) (Kd.R_nil _ _ _ _ _))) (Reps.none _ _))))))
                     intro v181 w40 ho41 hb hg_ hnew_
                     have HS0_ := (hb.cell (World.block_lt_of_cell? _ _ (hHeld.1))).trans (hHeld.1)
                     have HS1_ := (hb.cell (World.block_lt_of_cell? _ _ (hHeld.2))).trans (hHeld.2)
                     clear hg_ hnew_
                     (first | rw [← Ny180.out] at ho41 | (simp only [Int.reduceToNat] at ho41; rw [← Ny180.out] at ho41))
                     have n0_ := Aside0.mk (Kd.R_below (by (with_reducible repeat (first | apply Kd.R_alloc | apply Kd.R_drewN | apply Kd.R_drew)); exact HO167.out) hb)
                     have n1_ := Aside0.mk (Kd.S_elder' (by (with_reducible repeat (first | apply Kd.S_alloc | apply Kd.S_drewN | apply Kd.S_drew)); exact HO177.out) (Kd.S_base ho41) hb)
                     have n2_ := Aside0.mk (Kd.S_lower (Kd.S_new' ho41 (Kd.S_lt (by (with_reducible repeat (first | apply Kd.S_alloc | apply Kd.S_drewN | apply Kd.S_drew)); exact HO177.out))) (below_size (by repeat (first | (with_reducible first | exact HB.out | apply below_alloc | apply pw_below_drewN | apply below_drew1) | exact HB.out))))
                     have n3_ := Aside0.mk (below_step (by repeat (first | (with_reducible first | exact HB.out | apply below_alloc | apply pw_below_drewN | apply below_drew1) | exact HB.out)) hb)
                     clear HO167
                     clear HO177
                     clear HB
                     have HO167 := n0_
                     have HO177 := n1_
                     have HO182 := n2_
                     have HB := n3_
                     clear n0_ n1_ n2_ n3_
                     clear hb ho41
                     refine hK.out _ _ ⟨HS0_, HS1_⟩ (fun hHeld => ?_)
                     clear hK K
                     refine norm_ (a' := ?_) ?_ ?_
                     rotate_left
                     ·show Act.put _ (some 74) _ = _
                      simp only [Act.put, zA, zZ, zS, i64_w, i32_w]
                      rfl
                     refine pS 14 12 #[T,T,T,T,T,T,T,T,T,T,T,T,T,T,T] ?_ (hc := any_of HT_.out (by kernel_rfl))
                     refine done_ (done_of HT_.out (by kernel_rfl)) ?_
                     try go_wp2_with (first | ((with_reducible refine gate_callee (f := 12) rfl ?_); refine goesL_ (some 76) rfl rfl Tryd.func12 (by kernel_rfl) rfl #[.int .i64 t175] rfl (by (try simp only [List.map_toArray, List.map_cons, List.map_nil]); first | done | rfl | (simp only [List.length_drop, List.length_take]; rfl)) ?_; (with_reducible refine (stolelaw0_Num.calls t175 t183 _ A29.out).mono ?_); rintro e w' ⟨rfl, ⟨nd, rfl⟩⟩; refine ⟨_, rfl, ?_⟩; obtain ⟨Ao42, co42, eo42⟩ := Kd.S_slice HO177.out; subst eo42; obtain ⟨Ao43, co43, eo43⟩ := Kd.S_slice HO182.out; subst eo43) | (go_at_call 14; (with_reducible refine (stolelaw0_SameTokens.calls _ _ t174 _ _ y180 t184 _ ?side1 ?side2 ?side3 ?side4 A31.out).mono ?_); (case side1 => repeat (first | exact (Kd.S_reads' HO177.out).2.2 | (with_reducible refine Kd.C_alloc ?_ _) | (with_reducible refine Kd.C_drewN ?_ _) | (with_reducible refine Kd.C_drew ?_))); (case side2 => exact (Kd.S_reads' HO177.out).2.1); (case side3 => repeat (first | exact (Kd.S_reads' HO182.out).2.2 | (with_reducible refine Kd.C_alloc ?_ _) | (with_reducible refine Kd.C_drewN ?_ _) | (with_reducible refine Kd.C_drew ?_))); (case side4 => exact (Kd.S_reads' HO182.out).2.1); rintro e w' ⟨rfl, ⟨nd, rfl⟩⟩))
                     go_ret
                     exact ⟨by first | rfl | (simp [errW_none, errW_some] <;> rfl) | (simp only [← hji8, ← hji13]; first | rfl | (simp [errW_none, errW_some] <;> rfl)) | (simp [*, errW_none, errW_some] <;> rfl), by repeat (first | (with_reducible first | exact HB.out | apply below_alloc | apply pw_below_drewN | apply below_drew1) | exact HB.out)⟩
                    ·rw [if_neg c30] at H
                     have c30b0 : (t183 == 0) = false := beq_eq_false_iff_ne.mpr c30
                     have c30b1 : (t183 != 0) = true := bne_iff_ne.mpr c30
                     obtain rfl := Option.some.inj H
                     exact absurd hr (by simp)
                   ·rw [if_neg c27] at H
                    exact absurd H (by simp)
                  ·rw [if_neg c26] at H
                   exact absurd H (by simp)
                 ·rw [if_neg c25] at H
                  exact absurd H (by simp)
                ·rw [if_neg c24] at H
                 exact absurd H (by simp)
               ·rw [if_neg c23] at H
                exact absurd H (by simp)
              ·rw [if_neg c22] at H
               exact absurd H (by simp)
             ·rw [if_neg c21] at H
              exact absurd H (by simp)
            ·rw [if_neg c20] at H
             exact absurd H (by simp)
           ·rw [if_neg c18] at H
            exact absurd H (by simp)
          ·rw [if_neg c17] at H
           exact absurd H (by simp)
         ·rw [if_neg c16] at H
          exact absurd H (by simp)
        ·rw [if_neg c15] at H
         exact absurd H (by simp)
       ·rw [if_neg c14] at H
        exact absurd H (by simp)
      ·rw [if_neg c12] at H
       exact absurd H (by simp)
     ·rw [if_neg c11] at H
      exact absurd H (by simp)
    ·rw [if_neg c10] at H
     exact absurd H (by simp)
   ·rw [if_neg c9] at H
    exact absurd H (by simp)
  ·rw [if_neg c7] at H
   exact absurd H (by simp)
 ·replace c5 := Bool.eq_false_iff.mpr c5
  subst c5
  have H1 : (some false) = some r := by rw [if_neg (show ¬ (false = true) by decide)] at H; exact H
  clear H
  have H := H1
  clear H1
  obtain rfl := Option.some.inj H
  exact absurd hr (by simp)
def stolelaw5_TokenHeld.Pure : Prop := ∀ (a0 : Int) (a1 : ByteArray) (a2 : ByteArray), (Lit.int .i64 a0).wf = true → a1.size ≤ 140737488351232 → a2.size ≤ 140737488351232 → ∃ k, stolelaw5_TokenHeld.f k a0 a1 a2 = some true
theorem stolelaw5_TokenHeld.walk (P : stolelaw5_TokenHeld.Pure) (a0 : Int) (a1 : ByteArray) (a2 : ByteArray) (w : World) (hT : Tabs w) (w0 : (Lit.int .i64 a0).wf = true) (w1 : a1.size ≤ 140737488351232) (w2 : a2.size ≤ 140737488351232) :
  Calls Tryd.prog 4 #[.int .i64 a0, .string a1, .string a2] w fun e w' => e = .returned (.bool true) ∧ Below w.heap.size w w' := by
 obtain ⟨k, h⟩ := P a0 a1 a2 w0 w1 w2
 refine (stolelaw5_TokenHeld.calls k a0 a1 a2 true w hT h rfl).mono ?_
 rintro e w' ⟨rfl, hd⟩
 exact ⟨rfl, hd⟩
end Go.Proofs.YtgbaakopneldaaaDoor.XL
end
section
namespace Go.Proofs.YtgbaakopneldaaaDoor.P5
open Go.RowKit Go.Proofs.YtgbaakopneldaaaDoor.XK Go.Proofs.YtgbaakopneldaaaDoor.XL Go.Proofs.YtgbaakopneldaaaDoor.Tk Go.Proofs.YtgbaakopneldaaaDoor.ExtM Go.Proofs.YtgbaakopneldaaaDoor.Base Go.Proofs.YtgbaakopneldaaaDoorW.PrintWords Go.Proofs.YtgbaakopneldaaaDoorW.PrintLast Go.Proofs.YtgbaakopneldaaaDoorW.PrintMore
open Go.Proofs.YtgbaakopneldaaaDoor.Ln (linesB linesL lines_none)
set_option linter.unusedVariables false
set_option linter.unusedSimpArgs false
set_option maxRecDepth 100000
def ltSt (h : ByteArray) : St := ⟨20, ⟨#[]⟩, false, ⟨#[]⟩, h, 0⟩
structure Holds (nm ot tl : List UInt8) : Prop where
  small : nm.length ≤ 10 ∧ ot.length ≤ 10 ∧ tl.length ≤ 10 ∧ 1 ≤ nm.length
  tail : nm.drop 1 = tl
  no : ∀ x ∈ nm ++ ot ++ tl, x ≠ 13 ∧ x ≠ 38
  first : runM m0 ([60] ++ nm ++ [62]) = ⟨heldSt (bts nm), [⟨1, bts nm, ⟨#[]⟩, [], false⟩], [], [], bts nm, [], none⟩
  quiet : quietRun (heldSt (bts nm)) ([60, 112, 62, 60, 47] ++ ot ++ [62, 60, 47] ++ tl ++ [62]) = true
  stays : stRun (heldSt (bts nm)) ([60, 112, 62, 60, 47] ++ ot ++ [62, 60, 47] ++ tl ++ [62]) = heldSt (bts nm)
  last : ∀ (o : List S30) (b : List UInt8), endM (runM ⟨ltSt (bts nm), o, b, [60], bts nm, [], none⟩ ([47] ++ nm ++ [32, 120, 62, 121])) = (o ++ txtL (bts nm) b ++ [⟨2, bts nm, ⟨#[]⟩, [], false⟩]) ++ txtL ⟨#[]⟩ [121]
theorem holds0 : Holds [115, 99, 114, 105, 112, 116] [115, 116, 121, 108, 101] [99, 114, 105, 112, 116] where
  small := by decide
  tail := by decide
  no := by decide
  first := by kernel_rfl
  quiet := by kernel_rfl
  stays := by kernel_rfl
  last := fun o b => by kernel_rfl
theorem holds1 : Holds [115, 116, 121, 108, 101] [116, 105, 116, 108, 101] [116, 121, 108, 101] where
  small := by decide
  tail := by decide
  no := by decide
  first := by kernel_rfl
  quiet := by kernel_rfl
  stays := by kernel_rfl
  last := fun o b => by kernel_rfl
theorem holds2 : Holds [116, 105, 116, 108, 101] [116, 101, 120, 116, 97, 114, 101, 97] [105, 116, 108, 101] where
  small := by decide
  tail := by decide
  no := by decide
  first := by kernel_rfl
  quiet := by kernel_rfl
  stays := by kernel_rfl
  last := fun o b => by kernel_rfl
theorem holds3 : Holds [116, 101, 120, 116, 97, 114, 101, 97] [115, 99, 114, 105, 112, 116] [101, 120, 116, 97, 114, 101, 97] where
  small := by decide
  tail := by decide
  no := by decide
  first := by kernel_rfl
  quiet := by kernel_rfl
  stays := by kernel_rfl
  last := fun o b => by kernel_rfl
theorem held_step (m : Mc) (h : ByteArray) (hs : m.st = ltSt h) (b : List UInt8) (hb : m.buf ++ m.pnd = b) : stepM m 60 = ⟨ltSt h, m.out, b, [60], m.held, m.ats, m.cur⟩ := by
  unfold stepM
  have e : stepS m.st (60 : UInt8).toNat = ltSt h := by
    rw [hs, stepS_20 _ rfl]; rfl
  simp only [e]
  have e2 : (ltSt h).pos = 20 := rfl
  rw [if_pos ⟨trivial, Or.inr e2⟩, hb]
theorem held_toks (nm ot tl q1 q2 : List UInt8) (H : Holds nm ot tl) (h1 : ∀ b ∈ q1, b ≠ 60 ∧ b ≠ 38 ∧ b ≠ 13) (h2 : ∀ b ∈ q2, b ≠ 60 ∧ b ≠ 38 ∧ b ≠ 13) (hn1 : q1.length ≤ 300) (hn2 : q2.length ≤ 300) (inn : List UInt8) (hin : inn = q1 ++ ([60, 112, 62, 60, 47] ++ ot ++ [62, 60, 47] ++ tl ++ [62]) ++ q2 ++ [60]) :
    tokensM (([60] ++ nm ++ [62]) ++ inn ++ [60] ++ ([47] ++ nm ++ [32, 120, 62, 121])) = ([⟨1, bts nm, ⟨#[]⟩, [], false⟩, ⟨0, ⟨#[]⟩, bts inn, [], false⟩, ⟨2, bts nm, ⟨#[]⟩, [], false⟩, ⟨0, ⟨#[]⟩, bts [121], [], false⟩], 0) := by
  obtain ⟨s1, s2, s3, s4⟩ := H.small
  have hno := H.no
  have hnm : ∀ x ∈ nm, x ≠ 13 ∧ x ≠ 38 := fun x hx => hno x (by simp [hx])
  have hot : ∀ x ∈ ot, x ≠ 13 ∧ x ≠ 38 := fun x hx => hno x (by simp [hx])
  have htl : ∀ x ∈ tl, x ≠ 13 ∧ x ≠ 38 := fun x hx => hno x (by simp [hx])
  have hI : ∀ x ∈ inn, x ≠ 13 ∧ x ≠ 38 := by
    intro x hx
    rw [hin] at hx
    simp only [List.mem_append, List.mem_cons, List.not_mem_nil, or_false] at hx
    rcases hx with ((hx | ((((hx | hx) | hx) | hx) | hx)) | hx) | hx
    · exact ⟨(h1 x hx).2.2, (h1 x hx).2.1⟩
    · rcases hx with rfl | rfl | rfl | rfl | rfl <;> decide
    · exact hot x hx
    · rcases hx with rfl | rfl | rfl <;> decide
    · exact htl x hx
    · subst hx; decide
    · exact ⟨(h2 x hx).2.2, (h2 x hx).2.1⟩
    · subst hx; decide
  have hlen : inn.length ≤ 700 := by
    rw [hin]
    simp only [List.length_append, List.length_cons, List.length_nil]
    omega
  unfold tokensM
  rw [if_neg (by simp only [List.length_append, List.length_cons, List.length_nil]; omega)]
  rw [lines_none _ (by
    intro x hx
    simp only [List.mem_append, List.mem_cons, List.not_mem_nil, or_false] at hx
    rcases hx with ((((hx | hx) | hx) | hx) | hx) | ((hx | hx) | hx)
    · subst hx; decide
    · exact (hnm x hx).1
    · subst hx; decide
    · exact (hI x hx).1
    · subst hx; decide
    · subst hx; decide
    · exact (hnm x hx).1
    · rcases hx with rfl | rfl | rfl | rfl <;> decide)]
  rw [run_app _ _ ([47] ++ nm ++ [32, 120, 62, 121]), run_app _ _ [60], run_app _ _ inn, H.first]
  obtain ⟨m, hm⟩ : ∃ m : Mc, (⟨heldSt (bts nm), [⟨1, bts nm, ⟨#[]⟩, [], false⟩], [], [], bts nm, [], none⟩ : Mc) = m := ⟨_, rfl⟩
  rw [hm]
  have hms : m.st = heldSt (bts nm) := by rw [← hm]
  have q1r := quiet_held (bts nm) q1 (fun b hb => (h1 b hb).1)
  have q2r := quiet_held (bts nm) q2 (fun b hb => (h2 b hb).1)
  have hq : quietRun m.st inn = true := by
    rw [hms, hin, quiet_app, quiet_app, quiet_app, q1r.1, q1r.2, H.quiet, stRun_app, q1r.2, H.stays, q2r.1, stRun_app, stRun_app, q1r.2, H.stays, q2r.2]
    kernel_rfl
  have hsr : stRun m.st inn = ltSt (bts nm) := by
    rw [hms, hin, stRun_app, stRun_app, stRun_app, q1r.2, H.stays, q2r.2]
    kernel_rfl
  obtain ⟨r1, r2, r3, r4, r5, r6⟩ := run_held inn m (by rw [hms]; rfl) hq
  rw [hsr] at r1
  have hb : (runM m inn).buf ++ (runM m inn).pnd = inn := by rw [r6, ← hm]; rfl
  have hst := held_step (runM m inn) (bts nm) r1 inn hb
  rw [show runM (runM m inn) [60] = stepM (runM m inn) 60 from rfl, hst, r2, r3, r4, r5, ← hm]
  dsimp only
  rw [H.last]
  have hne : inn ≠ [] := by rw [hin]; simp
  rw [txt_ne _ inn hne (fun b hb => (hI b hb).2), txt_ne _ [121] (by simp) (by decide)]
  rfl
theorem same_ok (a b : List S30) (h : a = b) (hs : ∀ x ∈ a, x.f3.length ≤ 4611686018427387904) : stolelaw0_SameTokens.f a b = some true := by
  unfold stolelaw0_SameTokens.f
  rw [if_pos (List.all_eq_true.2 fun x hx => decide_eq_true (hs x hx)), (Tr.allEq_eq Tr.tokEq_iff).2 h]
def heldNames : List ByteArray := [⟨#[115, 99, 114, 105, 112, 116]⟩, ⟨#[115, 116, 121, 108, 101]⟩, ⟨#[116, 105, 116, 108, 101]⟩, ⟨#[116, 101, 120, 116, 97, 114, 101, 97]⟩]
theorem name_at (i : Nat) (hi : i < 4) : ∃ nm ot tl, Holds nm ot tl ∧ ∃ j : Nat, j < 4 ∧ Int.tmod (wrap64 ((i : Int) + 1)) 4 = (j : Int) ∧ rdOf ByteArray.empty heldNames (i : Int) = bts nm ∧ rdOf ByteArray.empty heldNames (j : Int) = bts ot := by
  obtain rfl | rfl | rfl | rfl : i = 0 ∨ i = 1 ∨ i = 2 ∨ i = 3 := by omega
  · exact ⟨_, _, _, holds0, 1, by decide, by kernel_rfl, rfl, rfl⟩
  · exact ⟨_, _, _, holds1, 2, by decide, by kernel_rfl, rfl, rfl⟩
  · exact ⟨_, _, _, holds2, 3, by decide, by kernel_rfl, rfl, rfl⟩
  · exact ⟨_, _, _, holds3, 0, by decide, by kernel_rfl, rfl, rfl⟩
theorem tokenHeld_plain (a0 : Int) (a1 a2 : ByteArray) (w0 : (Lit.int IntKind.i64 a0).wf = true) (h1 : a1.size ≤ 140737488351232) (h2 : a2.size ≤ 140737488351232) : ∃ k, stolelaw5_TokenHeld.f k a0 a1 a2 = some true := by
  refine Ev.rounds ?_
  refine Ev.congr (f := fun k => _) (fun k => by rw [stolelaw5_TokenHeld.f]) ?_
  refine Ev.bind awake_ev ?_
  refine Ev.pos rfl ?_
  refine Ev.bindC (s := heldNames) rfl ?_
  obtain ⟨q1, hq1, hQ1, hs1⟩ := quiet_ev a1 0 h1
  obtain ⟨q2, hq2, hQ2, hs2⟩ := quiet_ev a2 0 h2
  refine Ev.bind hq1 ?_
  obtain ⟨i, hi⟩ : ∃ i : Nat, wrap64 (Int.tmod (IntKind.u64.wrap a0) 4) = (i : Int) ∧ i < 4 := by
    have hu : 0 ≤ IntKind.u64.wrap a0 := by rw [IntKind.wrap_u64]; omega
    have h3 := Int.tmod_nonneg 4 hu
    have h4 := Int.tmod_lt_of_pos (IntKind.u64.wrap a0) (show (0 : Int) < 4 by decide)
    refine ⟨(Int.tmod (IntKind.u64.wrap a0) 4).toNat, ?_, by omega⟩
    unfold wrap64; omega
  obtain ⟨hi, hi4⟩ := hi
  rw [hi]
  obtain ⟨nm, ot, tl, H, j, hj4, hj, hnm, hot⟩ := name_at i hi4
  rw [hj, hnm, hot]
  obtain ⟨s1, s2, s3, s4⟩ := H.small
  have hz1 : (bts nm).size = nm.length := by rw [← data_length, bts_data]
  have hz2 : (bts ot).size = ot.length := by rw [← data_length, bts_data]
  have htl : (bts nm).extract 1 (bts nm).size = bts tl := bts_eq (by rw [Lib.extract_data, bts_data, hz1, H.tail]; exact List.take_of_length_le (by rw [← H.tail, List.length_drop]; omega))
  have hz3 : (bts tl).size = tl.length := by rw [← data_length, bts_data]
  rw [htl]
  have hlen : (heldNames.length : Int) = 4 := rfl
  rw [hlen]
  have hb : ∀ n : Nat, n ≤ 2000 → n ≤ 9223372036854775807 := fun n h => by omega
  refine Ev.pos (by omega) (Ev.pos (by omega) (Ev.pos (by omega) (Ev.pos (by omega) (Ev.pos (by omega) (Ev.pos (by omega) (Ev.pos (by omega) (Ev.pos (by omega) (Ev.pos (by omega) (Ev.pos (by omega) ?_)))))))))
  refine Ev.bind hq2 ?_
  refine Ev.pos (by omega) (Ev.pos (by omega) (Ev.pos (by omega) (Ev.pos (by omega) (Ev.pos (by omega) (Ev.pos (by omega) (Ev.pos (by omega) (Ev.pos (by omega) ?_)))))))
  obtain ⟨l1, hl1⟩ : ∃ l, q1.data.toList = l := ⟨_, rfl⟩
  obtain ⟨l2, hl2⟩ : ∃ l, q2.data.toList = l := ⟨_, rfl⟩
  have hn1 : l1.length ≤ 300 := by rw [← hl1]; exact hs1
  have hn2 : l2.length ≤ 300 := by rw [← hl2]; exact hs2
  have hP1 : ∀ b ∈ l1, b ≠ 60 ∧ b ≠ 38 ∧ b ≠ 13 := fun b hb => ⟨(hQ1 b (hl1 ▸ hb)).1, (hQ1 b (hl1 ▸ hb)).2.1, (hQ1 b (hl1 ▸ hb)).2.2.1⟩
  have hP2 : ∀ b ∈ l2, b ≠ 60 ∧ b ≠ 38 ∧ b ≠ 13 := fun b hb => ⟨(hQ2 b (hl2 ▸ hb)).1, (hQ2 b (hl2 ▸ hb)).2.1, (hQ2 b (hl2 ▸ hb)).2.2.1⟩
  obtain ⟨inn, hin⟩ : ∃ inn, inn = l1 ++ ([60, 112, 62, 60, 47] ++ ot ++ [62, 60, 47] ++ tl ++ [62]) ++ l2 ++ [60] := ⟨_, rfl⟩
  have hT := held_toks nm ot tl l1 l2 H hP1 hP2 hn1 hn2 inn hin
  have hinB : ((((((q1 ++ (⟨#[60, 112, 62, 60, 47]⟩ : ByteArray)) ++ bts ot) ++ (⟨#[62, 60, 47]⟩ : ByteArray)) ++ bts tl) ++ (⟨#[62]⟩ : ByteArray)) ++ q2) ++ (⟨#[60]⟩ : ByteArray) = bts inn := by
    refine bts_eq ?_
    rw [hin]
    simp only [data_append, bts_data, hl1, hl2, List.append_assoc]
  rw [hinB]
  have hpage : (((((⟨#[60]⟩ : ByteArray) ++ bts nm) ++ (⟨#[62]⟩ : ByteArray)) ++ bts inn) ++ (⟨#[60, 47]⟩ : ByteArray) ++ bts nm ++ (⟨#[32, 120, 62, 121]⟩ : ByteArray)).data.toList = ([60] ++ nm ++ [62]) ++ inn ++ [60] ++ ([47] ++ nm ++ [32, 120, 62, 121]) := by
    simp only [data_append, bts_data, List.append_assoc, List.cons_append, List.nil_append]
  refine Ev.bindC (toks_b _) ?_
  rw [hpage, hT]
  refine Ev.bindC rfl (Ev.pos rfl ?_)
  refine Ev.bindC (same_ok _ _ rfl ?_) (Ev.now true)
  intro x hx
  simp only [List.mem_cons, List.not_mem_nil, or_false] at hx
  rcases hx with rfl | rfl | rfl | rfl <;> exact Nat.zero_le _
end Go.Proofs.YtgbaakopneldaaaDoor.P5
end
section
namespace Go.Proofs.YtgbaakopneldaaaDoor.RowTokenHeld
open Go.ChangeShapes Go.WideShapes Go.ChangeAt Go.RowKit Go.Proofs.YtgbaakopneldaaaDoorW.PrintWords Go.Proofs.YtgbaakopneldaaaDoorW.PrintLast Go.Proofs.YtgbaakopneldaaaDoor.ExtM
open Go.ChangeMaps (open_string shut_string)
set_option linter.unusedVariables false
theorem own : ownKnob Tryd.prog.godebug = none := by kernel_rfl
set_option maxRecDepth 100000 in
set_option maxHeartbeats 4000000 in
theorem contract (H : Type) (enc : TypeId × Value → H) (W : World) (base : Nat) (args : Array Value) (ds gs : List (DataW H)) (before : List MemPlace)
    (hval0 : ∀ (j : Nat) t v, Tryd.f4.params[j]? = some t → args[j]? = some v → Value.okWide Tryd.prog W .any base t v)
    (hW : DataW.Whole enc Tryd.prog Tryd.f4.params.toList Rows.tokenHeldSpec.vars false W args.toList ds gs before)
    (hsz0 : (DataW.weightsEach Tryd.prog (Tryd.f4.params.toList ++ Rows.tokenHeldSpec.plain.varTypes Tryd.prog) (ds ++ gs)).all (· ≤ reachBytes) = true)
    (hL : laidMetH Tryd.prog Rows.tokenHeldRow.laid W)
    (hsh : W.ShapedOpen Tryd.prog)
    : Calls Tryd.prog 4 args W fun e W' => ∃ v, e = .returned v ∧ Rows.tokenHeldSpec.post enc Tryd.prog Tryd.f4 false true false false W args v W' := by
  have hsz : (DataW.weightsEach Tryd.prog (Tryd.f4.params.toList ++ Rows.tokenHeldSpec.plain.varTypes Tryd.prog) (ds ++ gs)).all (· ≤ reachBytes) = true := hsz0
  have hval : ∀ (j : Nat) t v, Tryd.f4.params[j]? = some t → args[j]? = some v → Value.okWide Tryd.prog W .any base t v := hval0
  have hW' := hW
  obtain ⟨p, q, hA0, hV, rfl, hfz, hnd⟩ := hW
  have hA : DataW.TrodAll enc Tryd.prog W 0 (fun _ => true) true Tryd.f4.params.toList args.toList ds p := hA0
  rw [Tryd.params4] at hA hval hsz
  obtain ⟨v0, vs0, d0, ds0, p0, q0, hargs, rfl, rfl, h0, r0⟩ := trodAll_cons hA
  obtain ⟨v1, vs1, d1, ds1, p1, q1, rfl, rfl, rfl, h1, r1⟩ := trodAll_cons r0
  obtain ⟨v2, vs2, d2, ds2, p2, q2, rfl, rfl, rfl, h2, r2⟩ := trodAll_cons r1
  obtain ⟨rfl, rfl, rfl⟩ := trodAll_nil r2
  obtain rfl : args = #[v0, v1, v2] := by cases args; simp_all
  obtain ⟨rfl, rfl⟩ := trodVars_none hV
  obtain ⟨a0, rfl, rfl, rfl, w0⟩ := open_int Tryd.underlying3 (hval 0 3 v0 rfl rfl) h0
  obtain ⟨a1, rfl, rfl, rfl, y1⟩ := open_string Tryd.underlying9 (hval 1 9 v1 rfl rfl) h1
  have w1 : a1.size ≤ 140737488351232 := by
    have z := sized_string hsz (j := 1) (t := 9) rfl rfl
    rw [Array.length_toList] at z
    exact z
  obtain ⟨a2, rfl, rfl, rfl, y2⟩ := open_string Tryd.underlying9 (hval 2 9 v2 rfl rfl) h2
  have w2 : a2.size ≤ 140737488351232 := by
    have z := sized_string hsz (j := 2) (t := 9) rfl rfl
    rw [Array.length_toList] at z
    exact z
  clear hA0 hval0 hsz0 hsz hval
  have hT : Tabs W := Tryd.laysM143.s1_3 W hsh
  obtain ⟨k, hk⟩ := P5.tokenHeld_plain a0 a1 a2 w0 w1 w2
  refine (XL.stolelaw5_TokenHeld.calls k a0 a1 a2 true W hT hk rfl).mono fun e W' ⟨he, bel0⟩ => ?_
  have bel : Below W.heap.size W W' := bel0
  subst he
  simp only [List.append_nil] at hW'
  exact ⟨_, rfl, _, _, _, [], _, [], hW', trodAll_mk1 (shut_bool Tryd.underlying4 _), (trodAll_cons_mk (shut_int Tryd.underlying3 w0) (trodAll_cons_mk (shut_string Tryd.underlying9 y1) (trodAll_cons_mk (shut_string Tryd.underlying9 y2) trodAll_mk0))), rfl, bel.frame _, fun h => by cases h⟩
theorem laid_met (os : Os) : laidMetH Tryd.prog Rows.tokenHeldRow.laid ((World.laidAll Tryd.prog os Rows.tokenHeldRow.laid).forCall (fun _ _ => 0) ⟨#[], #[.int .i64 0, .string ByteArray.empty, .string ByteArray.empty], []⟩).memory := by
  rw [MakeChecks.laidMetH_plain _ _ _ (by kernel_rfl)]
  exact laidMet_laidAll _ (by kernel_rfl) (by kernel_rfl)
theorem reads (os : Os) {H : Type} (enc : TypeId × Value → H) : ∃ places, DataW.whole enc Tryd.prog ((World.laidAll Tryd.prog os Rows.tokenHeldRow.laid).forCall (fun _ _ => 0) ⟨#[], #[.int .i64 0, .string ByteArray.empty, .string ByteArray.empty], []⟩).memory Tryd.f4.params.toList Rows.tokenHeldSpec.vars false (#[.int .i64 0, .string ByteArray.empty, .string ByteArray.empty] : Array Value).toList 8 = some ([.lit (.int .i64 0), .lit (.string []), .lit (.string [])], [], places) :=
  ⟨[], by kernel_rfl⟩
set_option maxRecDepth 100000 in
theorem lifted (os : Os) (started : os.Started) (H : Type) (enc : TypeId × Value → H) (F : Stop.Interp) :
    ReturnsInHanded {} Tryd.checked os 4 .any ((OpenSpec.ofChange Rows.tokenHeldSpec).preRow enc Tryd.prog Tryd.f4 Rows.tokenHeldRow.domain false Rows.tokenHeldRow.laid) (((OpenSpec.ofChange Rows.tokenHeldSpec).at F).post enc Tryd.prog Tryd.f4 false true false false) := by
  obtain ⟨places, hx⟩ := reads os enc
  refine returnsInHanded_of_row (C := Tryd.checked) (s := (OpenSpec.ofChange Rows.tokenHeldSpec)) own started (by kernel_rfl) Tryd.func4
    (witness_row_at (enc := enc) (C := Tryd.checked) false (World.laidAll Tryd.prog os Rows.tokenHeldRow.laid) #[.int .i64 0, .string ByteArray.empty, .string ByteArray.empty] (World.laidAll_os _ _ _) (by kernel_rfl) (by kernel_rfl) (by kernel_rfl)
      (OpenSpec.preRow_of_cond 8 hx (by kernel_rfl) (fun k hk => by cases hk) (by kernel_rfl) (laid_met os))) ?_
  intro W base args ds gs before hval hW hcnd hcond hsz hL hsh _
  exact contract H enc W base args ds gs before hval hW hsz hL hsh
theorem said : Rows.TokenHeldSaid :=
  OpenClaim.holds_of_cond 4 Tryd.f4 rfl rfl rfl rfl rfl rfl rfl ⟨rfl, rfl, rfl, rfl, rfl⟩ rfl rfl rfl rfl rfl (by kernel_rfl) Tryd.func4 (by kernel_rfl)
    (of_decide_eq_true (by kernel_rfl)) (by unfold Func.isWrapper; first | (rw [if_pos (by decide +kernel)]; kernel_rfl) | (rw [if_neg (by decide +kernel)]; exact ⟨rfl, rfl⟩))
    (fun os started H enc _ F => by rw [OpenClaim.pre_eq_preRow]; exact lifted os started H enc F)
theorem plain (f : FuncId) (fn : Func) (hf : Tryd.pinned.checked.prog.funcNamed "stole/stolelaw5.TokenHeld" = some f) (hfn : Tryd.pinned.checked.prog.funcs[f]? = some fn) :
    false = Tryd.pinned.checked.prog.looks [] ∧ ∀ (j : Nat) t, fn.params[j]? = some t → Tryd.pinned.checked.prog.wantsStandIn t = false := by
  obtain rfl : f = 4 := Option.some.inj ((show Tryd.prog.funcNamed "stole/stolelaw5.TokenHeld" = some 4 by kernel_rfl).symm.trans hf) |>.symm
  obtain rfl : fn = Tryd.f4 := (Option.some.inj (Tryd.func4.symm.trans hfn)).symm
  refine ⟨by kernel_rfl, fun j t ht => ?_⟩
  rw [Tryd.params4] at ht
  have hm := Array.mem_of_getElem? ht
  have hall : (#[3, 9, 9] : Array TypeId).all (fun t => Tryd.prog.wantsStandIn t == false) = true := by kernel_rfl
  rw [Array.all_eq_true'] at hall
  exact eq_of_beq (hall t hm)
theorem proved : Rows.TokenHeldCardSaid :=
  Claim7.holds_tied_plain_at .later [] _ _ _ _ said (fun _ h => by cases h) (by kernel_rfl) (fun _ h => by cases h) tokenHeld_row_tie rfl ⟨rfl, rfl⟩ (by kernel_rfl) rfl plain (by kernel_rfl)
end Go.Proofs.YtgbaakopneldaaaDoor.RowTokenHeld
namespace Go.Proofs.YtgbaakopneldaaaDoor
theorem tokenHeld_holds : Rows.TokenHeldCardSaid := RowTokenHeld.proved
#print axioms tokenHeld_holds
end Go.Proofs.YtgbaakopneldaaaDoor
end
