/- The law stole/stolelaw5.StepStays returns true at every input of its types, and its arguments read behind the call as before. The listed package-level variables are tied to the program's text. No further condition. StepStays, plain. Laid by xprint.py, a program of this session over the kit's print: for each Go function one Lean function of the same answers, and the walk that shows it. Laid by xprint.py, a program of this session over the kit's print: for each Go function one Lean function of the same answers, and the walk that shows it. -/
import Derived.Test.YtgbaakopneldaaaDoorQ0
import Derived.Test.YtgbaakopneldaaaDoorQ1
import Derived.Test.YtgbaakopneldaaaDoorQ13
import Derived.Test.YtgbaakopneldaaaDoorQ14
import Derived.Test.YtgbaakopneldaaaDoorQ15
import Derived.Test.YtgbaakopneldaaaDoorQ16
import Derived.Test.YtgbaakopneldaaaDoorCards
import Derived.Test.YtgbaakopneldaaaDoorTie
import Derived.WalkKit
import Derived.ProofKit
import Derived.OpenShut
import Derived.ShutString
import Derived.ChangeOld
import Derived.Below
import Derived.SizedLaws
import Derived.Deep.DeepHandedRow
import Derived.LaidMore
import Derived.Lay
import Derived.SevenTiedAt
section
namespace Go.Proofs.YtgbaakopneldaaaDoor.XK
end Go.Proofs.YtgbaakopneldaaaDoor.XK
end
section
namespace Go.Proofs.YtgbaakopneldaaaDoor.XL
open Go.RowKit Go.Proofs.YtgbaakopneldaaaDoor.ExtM Go.Proofs.YtgbaakopneldaaaDoor.XK Go.Proofs.YtgbaakopneldaaaDoorW.PrintWords Go.Proofs.YtgbaakopneldaaaDoorW.PrintLast Go.Proofs.YtgbaakopneldaaaDoorW.PrintMore
open Go.Proofs.YtgbaakopneldaaaDoor.Ext (T F)
attribute [local go_sem] max2_int min2_int max_two min_two max_three min_three max_four min_four   -- for this text's walks alone
set_option linter.unusedVariables false
set_option linter.unusedSimpArgs false
attribute [local go_sem high] eqA40
/-! ### stolelaw5_TokenHalf: function 6 -/
/-! ### stolelaw5_StepStays: function 7 -/
def stolelaw5_StepStays.f (k : Nat) (a0 : Int) (a1 : Int) (a2 : ByteArray) : Option (Bool) := (stolelaw5_awake.f k).bind fun t232 => (if t232 = true then ((stolelaw5_quiet.f k a2 0).bind fun t233 => (if (t233.size : Int) > 9 then (if 0 ≤ 9 then (if 9 ≤ (t233.size : Int) then ((some (([(⟨0, (⟨#[]⟩ : ByteArray), false, (⟨#[]⟩ : ByteArray), (⟨#[]⟩ : ByteArray), 0⟩ : S40), (⟨8, (⟨#[97]⟩ : ByteArray), false, t233.extract 0 9, (⟨#[]⟩ : ByteArray), 0⟩ : S40), (⟨9, t233.extract 0 9, true, (⟨#[]⟩ : ByteArray), (⟨#[]⟩ : ByteArray), 0⟩ : S40), (⟨15, (⟨#[]⟩ : ByteArray), false, (⟨#[]⟩ : ByteArray), (⟨#[]⟩ : ByteArray), 0⟩ : S40), (⟨18, (⟨#[]⟩ : ByteArray), false, (⟨#[]⟩ : ByteArray), (⟨#[]⟩ : ByteArray), 0⟩ : S40), (⟨19, (⟨#[]⟩ : ByteArray), false, (⟨#[]⟩ : ByteArray), (⟨#[116, 105, 116, 108, 101]⟩ : ByteArray), 0⟩ : S40)] : List (S40)) : List (S40))).bind fun y234 => ((some (([60, 34, 39, 45, 62, 60] : List Int) : List Int)).bind fun y237 => (if 0 ≤ (wrap64 (Int.tmod (IntKind.u64.wrap (a0)) 6)) then (if (wrap64 (Int.tmod (IntKind.u64.wrap (a0)) 6)) < (y234.length : Int) then ((tok_Step.f ((rd_T40 y234 (wrap64 (Int.tmod (IntKind.u64.wrap (a0)) 6))).f0) ((rd_T40 y234 (wrap64 (Int.tmod (IntKind.u64.wrap (a0)) 6))).f1) ((rd_T40 y234 (wrap64 (Int.tmod (IntKind.u64.wrap (a0)) 6))).f2) ((rd_T40 y234 (wrap64 (Int.tmod (IntKind.u64.wrap (a0)) 6))).f3) ((rd_T40 y234 (wrap64 (Int.tmod (IntKind.u64.wrap (a0)) 6))).f4) ((rd_T40 y234 (wrap64 (Int.tmod (IntKind.u64.wrap (a0)) 6))).f5) ((Go.bits .and .i64 a1 255) % 256)).bind fun bt241 => (if (wrap64 (Int.tmod (IntKind.u64.wrap (a0)) 6)) < (y237.length : Int) then (some ((bt241.1 == ((rd_T40 y234 (wrap64 (Int.tmod (IntKind.u64.wrap (a0)) 6))).f0) && (bt241.2.1.toList == (((rd_T40 y234 (wrap64 (Int.tmod (IntKind.u64.wrap (a0)) 6))).f1).toList) && (bt241.2.2.1 == ((rd_T40 y234 (wrap64 (Int.tmod (IntKind.u64.wrap (a0)) 6))).f2) && (bt241.2.2.2.1.toList == (((rd_T40 y234 (wrap64 (Int.tmod (IntKind.u64.wrap (a0)) 6))).f3).toList) && (bt241.2.2.2.2.1.toList == (((rd_T40 y234 (wrap64 (Int.tmod (IntKind.u64.wrap (a0)) 6))).f4).toList) && (bt241.2.2.2.2.2 == ((rd_T40 y234 (wrap64 (Int.tmod (IntKind.u64.wrap (a0)) 6))).f5))))))) == (((Go.bits .and .i64 a1 255) % 256) != (rd y237 (wrap64 (Int.tmod (IntKind.u64.wrap (a0)) 6)))))) else (none))) else (none)) else (none)))) else (none)) else (none)) else ((some (([(⟨0, (⟨#[]⟩ : ByteArray), false, (⟨#[]⟩ : ByteArray), (⟨#[]⟩ : ByteArray), 0⟩ : S40), (⟨8, (⟨#[97]⟩ : ByteArray), false, t233, (⟨#[]⟩ : ByteArray), 0⟩ : S40), (⟨9, t233, true, (⟨#[]⟩ : ByteArray), (⟨#[]⟩ : ByteArray), 0⟩ : S40), (⟨15, (⟨#[]⟩ : ByteArray), false, (⟨#[]⟩ : ByteArray), (⟨#[]⟩ : ByteArray), 0⟩ : S40), (⟨18, (⟨#[]⟩ : ByteArray), false, (⟨#[]⟩ : ByteArray), (⟨#[]⟩ : ByteArray), 0⟩ : S40), (⟨19, (⟨#[]⟩ : ByteArray), false, (⟨#[]⟩ : ByteArray), (⟨#[116, 105, 116, 108, 101]⟩ : ByteArray), 0⟩ : S40)] : List (S40)) : List (S40))).bind fun y249 => ((some (([60, 34, 39, 45, 62, 60] : List Int) : List Int)).bind fun y252 => (if 0 ≤ (wrap64 (Int.tmod (IntKind.u64.wrap (a0)) 6)) then (if (wrap64 (Int.tmod (IntKind.u64.wrap (a0)) 6)) < (y249.length : Int) then ((tok_Step.f ((rd_T40 y249 (wrap64 (Int.tmod (IntKind.u64.wrap (a0)) 6))).f0) ((rd_T40 y249 (wrap64 (Int.tmod (IntKind.u64.wrap (a0)) 6))).f1) ((rd_T40 y249 (wrap64 (Int.tmod (IntKind.u64.wrap (a0)) 6))).f2) ((rd_T40 y249 (wrap64 (Int.tmod (IntKind.u64.wrap (a0)) 6))).f3) ((rd_T40 y249 (wrap64 (Int.tmod (IntKind.u64.wrap (a0)) 6))).f4) ((rd_T40 y249 (wrap64 (Int.tmod (IntKind.u64.wrap (a0)) 6))).f5) ((Go.bits .and .i64 a1 255) % 256)).bind fun bt256 => (if (wrap64 (Int.tmod (IntKind.u64.wrap (a0)) 6)) < (y252.length : Int) then (some ((bt256.1 == ((rd_T40 y249 (wrap64 (Int.tmod (IntKind.u64.wrap (a0)) 6))).f0) && (bt256.2.1.toList == (((rd_T40 y249 (wrap64 (Int.tmod (IntKind.u64.wrap (a0)) 6))).f1).toList) && (bt256.2.2.1 == ((rd_T40 y249 (wrap64 (Int.tmod (IntKind.u64.wrap (a0)) 6))).f2) && (bt256.2.2.2.1.toList == (((rd_T40 y249 (wrap64 (Int.tmod (IntKind.u64.wrap (a0)) 6))).f3).toList) && (bt256.2.2.2.2.1.toList == (((rd_T40 y249 (wrap64 (Int.tmod (IntKind.u64.wrap (a0)) 6))).f4).toList) && (bt256.2.2.2.2.2 == ((rd_T40 y249 (wrap64 (Int.tmod (IntKind.u64.wrap (a0)) 6))).f5))))))) == (((Go.bits .and .i64 a1 255) % 256) != (rd y252 (wrap64 (Int.tmod (IntKind.u64.wrap (a0)) 6)))))) else (none))) else (none)) else (none)))))) else (some false))
theorem stolelaw5_StepStays.mono : ∀ a0 a1 a2 k, LeO (stolelaw5_StepStays.f k a0 a1 a2) (stolelaw5_StepStays.f (k + 1) a0 a1 a2) := by
 intro a0 a1 a2 k
 unfold stolelaw5_StepStays.f
 repeat' first
   | (with_reducible exact stolelaw5_awake.mono _)
   | (with_reducible exact stolelaw5_quiet.mono _ _ _)
   | (with_reducible exact LeO.refl _)
   | (with_reducible exact LeO.none _)
   | (with_reducible refine LeO.ite ?_ ?_)
   | (with_reducible refine LeO.bind ?_ (fun _ => ?_))
   | exact stolelaw5_awake.mono _
   | exact stolelaw5_quiet.mono _ _ _
   | exact LeO.none _
   | refine LeO.ite ?_ ?_
   | refine LeO.bind ?_ (fun _ => ?_)
def stolelaw5_StepStays.T10 : Bool × List (List Nat × List Nat) := (true, [([], []), ([], []), ([0, 1], [0, 1]), ([2], [2]), ([], []), ([3, 4], [3, 4]), ([], []), ([], []), ([6, 7], [6, 7]), ([8], [8]), ([5, 9], [5, 9]), ([], []), ([], []), ([], []), ([12, 13], [12, 13]), ([14], [14]), ([11, 15], [11, 15]), ([10, 16], [10, 16]), ([17, 5, 0, 1, 2, 3, 4, 5, 6, 7, 8, 9, 10, 11, 12, 13, 14, 15, 16, 17], [17])])
def stolelaw5_StepStays.B10 : List Nat := [0, 0, 3, 7, 0, 31, 0, 0, 192, 448, 1023, 0, 0, 0, 12288, 28672, 63488, 131071, 262143]
theorem stolelaw5_StepStays.tab10 : rtab .any (opsOf Tryd.f7 10) = stolelaw5_StepStays.T10 := by kernel_rfl
theorem stolelaw5_StepStays.bits10 : waitsOk stolelaw5_StepStays.T10.2 stolelaw5_StepStays.B10 = true := by kernel_rfl
set_option maxHeartbeats 8000000 in
set_option maxRecDepth 100000 in
theorem stolelaw5_StepStays.calls (k : Nat) (a0 : Int) (a1 : Int) (a2 : ByteArray) (r : Bool) (w : World) (hT : Tabs w) (h : stolelaw5_StepStays.f k a0 a1 a2 = some r) (hr : r = true) :
  Calls Tryd.prog 7 #[.int .i64 a0, .int .i64 a1, .string a2] w fun e w' => e = .returned (.bool r) ∧ Below w.heap.size w w' := by
 have hu40 := Tryd.underlying40
 have HT := Aside0.mk hT
 clear hT
 have HB := Aside0.mk (Below.refl w.heap.size w)
 have H : ((stolelaw5_awake.f k).bind fun t232 => (if t232 = true then ((stolelaw5_quiet.f k a2 0).bind fun t233 => (if (t233.size : Int) > 9 then (if 0 ≤ 9 then (if 9 ≤ (t233.size : Int) then ((some (([(⟨0, (⟨#[]⟩ : ByteArray), false, (⟨#[]⟩ : ByteArray), (⟨#[]⟩ : ByteArray), 0⟩ : S40), (⟨8, (⟨#[97]⟩ : ByteArray), false, t233.extract 0 9, (⟨#[]⟩ : ByteArray), 0⟩ : S40), (⟨9, t233.extract 0 9, true, (⟨#[]⟩ : ByteArray), (⟨#[]⟩ : ByteArray), 0⟩ : S40), (⟨15, (⟨#[]⟩ : ByteArray), false, (⟨#[]⟩ : ByteArray), (⟨#[]⟩ : ByteArray), 0⟩ : S40), (⟨18, (⟨#[]⟩ : ByteArray), false, (⟨#[]⟩ : ByteArray), (⟨#[]⟩ : ByteArray), 0⟩ : S40), (⟨19, (⟨#[]⟩ : ByteArray), false, (⟨#[]⟩ : ByteArray), (⟨#[116, 105, 116, 108, 101]⟩ : ByteArray), 0⟩ : S40)] : List (S40)) : List (S40))).bind fun y234 => ((some (([60, 34, 39, 45, 62, 60] : List Int) : List Int)).bind fun y237 => (if 0 ≤ (wrap64 (Int.tmod (IntKind.u64.wrap (a0)) 6)) then (if (wrap64 (Int.tmod (IntKind.u64.wrap (a0)) 6)) < (y234.length : Int) then ((tok_Step.f ((rd_T40 y234 (wrap64 (Int.tmod (IntKind.u64.wrap (a0)) 6))).f0) ((rd_T40 y234 (wrap64 (Int.tmod (IntKind.u64.wrap (a0)) 6))).f1) ((rd_T40 y234 (wrap64 (Int.tmod (IntKind.u64.wrap (a0)) 6))).f2) ((rd_T40 y234 (wrap64 (Int.tmod (IntKind.u64.wrap (a0)) 6))).f3) ((rd_T40 y234 (wrap64 (Int.tmod (IntKind.u64.wrap (a0)) 6))).f4) ((rd_T40 y234 (wrap64 (Int.tmod (IntKind.u64.wrap (a0)) 6))).f5) ((Go.bits .and .i64 a1 255) % 256)).bind fun bt241 => (if (wrap64 (Int.tmod (IntKind.u64.wrap (a0)) 6)) < (y237.length : Int) then (some ((bt241.1 == ((rd_T40 y234 (wrap64 (Int.tmod (IntKind.u64.wrap (a0)) 6))).f0) && (bt241.2.1.toList == (((rd_T40 y234 (wrap64 (Int.tmod (IntKind.u64.wrap (a0)) 6))).f1).toList) && (bt241.2.2.1 == ((rd_T40 y234 (wrap64 (Int.tmod (IntKind.u64.wrap (a0)) 6))).f2) && (bt241.2.2.2.1.toList == (((rd_T40 y234 (wrap64 (Int.tmod (IntKind.u64.wrap (a0)) 6))).f3).toList) && (bt241.2.2.2.2.1.toList == (((rd_T40 y234 (wrap64 (Int.tmod (IntKind.u64.wrap (a0)) 6))).f4).toList) && (bt241.2.2.2.2.2 == ((rd_T40 y234 (wrap64 (Int.tmod (IntKind.u64.wrap (a0)) 6))).f5))))))) == (((Go.bits .and .i64 a1 255) % 256) != (rd y237 (wrap64 (Int.tmod (IntKind.u64.wrap (a0)) 6)))))) else (none))) else (none)) else (none)))) else (none)) else (none)) else ((some (([(⟨0, (⟨#[]⟩ : ByteArray), false, (⟨#[]⟩ : ByteArray), (⟨#[]⟩ : ByteArray), 0⟩ : S40), (⟨8, (⟨#[97]⟩ : ByteArray), false, t233, (⟨#[]⟩ : ByteArray), 0⟩ : S40), (⟨9, t233, true, (⟨#[]⟩ : ByteArray), (⟨#[]⟩ : ByteArray), 0⟩ : S40), (⟨15, (⟨#[]⟩ : ByteArray), false, (⟨#[]⟩ : ByteArray), (⟨#[]⟩ : ByteArray), 0⟩ : S40), (⟨18, (⟨#[]⟩ : ByteArray), false, (⟨#[]⟩ : ByteArray), (⟨#[]⟩ : ByteArray), 0⟩ : S40), (⟨19, (⟨#[]⟩ : ByteArray), false, (⟨#[]⟩ : ByteArray), (⟨#[116, 105, 116, 108, 101]⟩ : ByteArray), 0⟩ : S40)] : List (S40)) : List (S40))).bind fun y249 => ((some (([60, 34, 39, 45, 62, 60] : List Int) : List Int)).bind fun y252 => (if 0 ≤ (wrap64 (Int.tmod (IntKind.u64.wrap (a0)) 6)) then (if (wrap64 (Int.tmod (IntKind.u64.wrap (a0)) 6)) < (y249.length : Int) then ((tok_Step.f ((rd_T40 y249 (wrap64 (Int.tmod (IntKind.u64.wrap (a0)) 6))).f0) ((rd_T40 y249 (wrap64 (Int.tmod (IntKind.u64.wrap (a0)) 6))).f1) ((rd_T40 y249 (wrap64 (Int.tmod (IntKind.u64.wrap (a0)) 6))).f2) ((rd_T40 y249 (wrap64 (Int.tmod (IntKind.u64.wrap (a0)) 6))).f3) ((rd_T40 y249 (wrap64 (Int.tmod (IntKind.u64.wrap (a0)) 6))).f4) ((rd_T40 y249 (wrap64 (Int.tmod (IntKind.u64.wrap (a0)) 6))).f5) ((Go.bits .and .i64 a1 255) % 256)).bind fun bt256 => (if (wrap64 (Int.tmod (IntKind.u64.wrap (a0)) 6)) < (y252.length : Int) then (some ((bt256.1 == ((rd_T40 y249 (wrap64 (Int.tmod (IntKind.u64.wrap (a0)) 6))).f0) && (bt256.2.1.toList == (((rd_T40 y249 (wrap64 (Int.tmod (IntKind.u64.wrap (a0)) 6))).f1).toList) && (bt256.2.2.1 == ((rd_T40 y249 (wrap64 (Int.tmod (IntKind.u64.wrap (a0)) 6))).f2) && (bt256.2.2.2.1.toList == (((rd_T40 y249 (wrap64 (Int.tmod (IntKind.u64.wrap (a0)) 6))).f3).toList) && (bt256.2.2.2.2.1.toList == (((rd_T40 y249 (wrap64 (Int.tmod (IntKind.u64.wrap (a0)) 6))).f4).toList) && (bt256.2.2.2.2.2 == ((rd_T40 y249 (wrap64 (Int.tmod (IntKind.u64.wrap (a0)) 6))).f5))))))) == (((Go.bits .and .i64 a1 255) % 256) != (rd y252 (wrap64 (Int.tmod (IntKind.u64.wrap (a0)) 6)))))) else (none))) else (none)) else (none)))))) else (some false))) = some r := h
 clear h
 replace H := Option.bind_eq_some_iff.mp H
 obtain ⟨t232, A40, H⟩ := H
 replace H : (if t232 = true then ((stolelaw5_quiet.f k a2 0).bind fun t233 => (if (t233.size : Int) > 9 then (if 0 ≤ 9 then (if 9 ≤ (t233.size : Int) then ((some (([(⟨0, (⟨#[]⟩ : ByteArray), false, (⟨#[]⟩ : ByteArray), (⟨#[]⟩ : ByteArray), 0⟩ : S40), (⟨8, (⟨#[97]⟩ : ByteArray), false, t233.extract 0 9, (⟨#[]⟩ : ByteArray), 0⟩ : S40), (⟨9, t233.extract 0 9, true, (⟨#[]⟩ : ByteArray), (⟨#[]⟩ : ByteArray), 0⟩ : S40), (⟨15, (⟨#[]⟩ : ByteArray), false, (⟨#[]⟩ : ByteArray), (⟨#[]⟩ : ByteArray), 0⟩ : S40), (⟨18, (⟨#[]⟩ : ByteArray), false, (⟨#[]⟩ : ByteArray), (⟨#[]⟩ : ByteArray), 0⟩ : S40), (⟨19, (⟨#[]⟩ : ByteArray), false, (⟨#[]⟩ : ByteArray), (⟨#[116, 105, 116, 108, 101]⟩ : ByteArray), 0⟩ : S40)] : List (S40)) : List (S40))).bind fun y234 => ((some (([60, 34, 39, 45, 62, 60] : List Int) : List Int)).bind fun y237 => (if 0 ≤ (wrap64 (Int.tmod (IntKind.u64.wrap (a0)) 6)) then (if (wrap64 (Int.tmod (IntKind.u64.wrap (a0)) 6)) < (y234.length : Int) then ((tok_Step.f ((rd_T40 y234 (wrap64 (Int.tmod (IntKind.u64.wrap (a0)) 6))).f0) ((rd_T40 y234 (wrap64 (Int.tmod (IntKind.u64.wrap (a0)) 6))).f1) ((rd_T40 y234 (wrap64 (Int.tmod (IntKind.u64.wrap (a0)) 6))).f2) ((rd_T40 y234 (wrap64 (Int.tmod (IntKind.u64.wrap (a0)) 6))).f3) ((rd_T40 y234 (wrap64 (Int.tmod (IntKind.u64.wrap (a0)) 6))).f4) ((rd_T40 y234 (wrap64 (Int.tmod (IntKind.u64.wrap (a0)) 6))).f5) ((Go.bits .and .i64 a1 255) % 256)).bind fun bt241 => (if (wrap64 (Int.tmod (IntKind.u64.wrap (a0)) 6)) < (y237.length : Int) then (some ((bt241.1 == ((rd_T40 y234 (wrap64 (Int.tmod (IntKind.u64.wrap (a0)) 6))).f0) && (bt241.2.1.toList == (((rd_T40 y234 (wrap64 (Int.tmod (IntKind.u64.wrap (a0)) 6))).f1).toList) && (bt241.2.2.1 == ((rd_T40 y234 (wrap64 (Int.tmod (IntKind.u64.wrap (a0)) 6))).f2) && (bt241.2.2.2.1.toList == (((rd_T40 y234 (wrap64 (Int.tmod (IntKind.u64.wrap (a0)) 6))).f3).toList) && (bt241.2.2.2.2.1.toList == (((rd_T40 y234 (wrap64 (Int.tmod (IntKind.u64.wrap (a0)) 6))).f4).toList) && (bt241.2.2.2.2.2 == ((rd_T40 y234 (wrap64 (Int.tmod (IntKind.u64.wrap (a0)) 6))).f5))))))) == (((Go.bits .and .i64 a1 255) % 256) != (rd y237 (wrap64 (Int.tmod (IntKind.u64.wrap (a0)) 6)))))) else (none))) else (none)) else (none)))) else (none)) else (none)) else ((some (([(⟨0, (⟨#[]⟩ : ByteArray), false, (⟨#[]⟩ : ByteArray), (⟨#[]⟩ : ByteArray), 0⟩ : S40), (⟨8, (⟨#[97]⟩ : ByteArray), false, t233, (⟨#[]⟩ : ByteArray), 0⟩ : S40), (⟨9, t233, true, (⟨#[]⟩ : ByteArray), (⟨#[]⟩ : ByteArray), 0⟩ : S40), (⟨15, (⟨#[]⟩ : ByteArray), false, (⟨#[]⟩ : ByteArray), (⟨#[]⟩ : ByteArray), 0⟩ : S40), (⟨18, (⟨#[]⟩ : ByteArray), false, (⟨#[]⟩ : ByteArray), (⟨#[]⟩ : ByteArray), 0⟩ : S40), (⟨19, (⟨#[]⟩ : ByteArray), false, (⟨#[]⟩ : ByteArray), (⟨#[116, 105, 116, 108, 101]⟩ : ByteArray), 0⟩ : S40)] : List (S40)) : List (S40))).bind fun y249 => ((some (([60, 34, 39, 45, 62, 60] : List Int) : List Int)).bind fun y252 => (if 0 ≤ (wrap64 (Int.tmod (IntKind.u64.wrap (a0)) 6)) then (if (wrap64 (Int.tmod (IntKind.u64.wrap (a0)) 6)) < (y249.length : Int) then ((tok_Step.f ((rd_T40 y249 (wrap64 (Int.tmod (IntKind.u64.wrap (a0)) 6))).f0) ((rd_T40 y249 (wrap64 (Int.tmod (IntKind.u64.wrap (a0)) 6))).f1) ((rd_T40 y249 (wrap64 (Int.tmod (IntKind.u64.wrap (a0)) 6))).f2) ((rd_T40 y249 (wrap64 (Int.tmod (IntKind.u64.wrap (a0)) 6))).f3) ((rd_T40 y249 (wrap64 (Int.tmod (IntKind.u64.wrap (a0)) 6))).f4) ((rd_T40 y249 (wrap64 (Int.tmod (IntKind.u64.wrap (a0)) 6))).f5) ((Go.bits .and .i64 a1 255) % 256)).bind fun bt256 => (if (wrap64 (Int.tmod (IntKind.u64.wrap (a0)) 6)) < (y252.length : Int) then (some ((bt256.1 == ((rd_T40 y249 (wrap64 (Int.tmod (IntKind.u64.wrap (a0)) 6))).f0) && (bt256.2.1.toList == (((rd_T40 y249 (wrap64 (Int.tmod (IntKind.u64.wrap (a0)) 6))).f1).toList) && (bt256.2.2.1 == ((rd_T40 y249 (wrap64 (Int.tmod (IntKind.u64.wrap (a0)) 6))).f2) && (bt256.2.2.2.1.toList == (((rd_T40 y249 (wrap64 (Int.tmod (IntKind.u64.wrap (a0)) 6))).f3).toList) && (bt256.2.2.2.2.1.toList == (((rd_T40 y249 (wrap64 (Int.tmod (IntKind.u64.wrap (a0)) 6))).f4).toList) && (bt256.2.2.2.2.2 == ((rd_T40 y249 (wrap64 (Int.tmod (IntKind.u64.wrap (a0)) 6))).f5))))))) == (((Go.bits .and .i64 a1 255) % 256) != (rd y252 (wrap64 (Int.tmod (IntKind.u64.wrap (a0)) 6)))))) else (none))) else (none)) else (none)))))) else (some false)) = some r := H
 have A4 := Aside0.mk A40
 clear A40
 by_cases c5 : t232 = true
 ·subst c5
  have H1 : ((stolelaw5_quiet.f k a2 0).bind fun t233 => (if (t233.size : Int) > 9 then (if 0 ≤ 9 then (if 9 ≤ (t233.size : Int) then ((some (([(⟨0, (⟨#[]⟩ : ByteArray), false, (⟨#[]⟩ : ByteArray), (⟨#[]⟩ : ByteArray), 0⟩ : S40), (⟨8, (⟨#[97]⟩ : ByteArray), false, t233.extract 0 9, (⟨#[]⟩ : ByteArray), 0⟩ : S40), (⟨9, t233.extract 0 9, true, (⟨#[]⟩ : ByteArray), (⟨#[]⟩ : ByteArray), 0⟩ : S40), (⟨15, (⟨#[]⟩ : ByteArray), false, (⟨#[]⟩ : ByteArray), (⟨#[]⟩ : ByteArray), 0⟩ : S40), (⟨18, (⟨#[]⟩ : ByteArray), false, (⟨#[]⟩ : ByteArray), (⟨#[]⟩ : ByteArray), 0⟩ : S40), (⟨19, (⟨#[]⟩ : ByteArray), false, (⟨#[]⟩ : ByteArray), (⟨#[116, 105, 116, 108, 101]⟩ : ByteArray), 0⟩ : S40)] : List (S40)) : List (S40))).bind fun y234 => ((some (([60, 34, 39, 45, 62, 60] : List Int) : List Int)).bind fun y237 => (if 0 ≤ (wrap64 (Int.tmod (IntKind.u64.wrap (a0)) 6)) then (if (wrap64 (Int.tmod (IntKind.u64.wrap (a0)) 6)) < (y234.length : Int) then ((tok_Step.f ((rd_T40 y234 (wrap64 (Int.tmod (IntKind.u64.wrap (a0)) 6))).f0) ((rd_T40 y234 (wrap64 (Int.tmod (IntKind.u64.wrap (a0)) 6))).f1) ((rd_T40 y234 (wrap64 (Int.tmod (IntKind.u64.wrap (a0)) 6))).f2) ((rd_T40 y234 (wrap64 (Int.tmod (IntKind.u64.wrap (a0)) 6))).f3) ((rd_T40 y234 (wrap64 (Int.tmod (IntKind.u64.wrap (a0)) 6))).f4) ((rd_T40 y234 (wrap64 (Int.tmod (IntKind.u64.wrap (a0)) 6))).f5) ((Go.bits .and .i64 a1 255) % 256)).bind fun bt241 => (if (wrap64 (Int.tmod (IntKind.u64.wrap (a0)) 6)) < (y237.length : Int) then (some ((bt241.1 == ((rd_T40 y234 (wrap64 (Int.tmod (IntKind.u64.wrap (a0)) 6))).f0) && (bt241.2.1.toList == (((rd_T40 y234 (wrap64 (Int.tmod (IntKind.u64.wrap (a0)) 6))).f1).toList) && (bt241.2.2.1 == ((rd_T40 y234 (wrap64 (Int.tmod (IntKind.u64.wrap (a0)) 6))).f2) && (bt241.2.2.2.1.toList == (((rd_T40 y234 (wrap64 (Int.tmod (IntKind.u64.wrap (a0)) 6))).f3).toList) && (bt241.2.2.2.2.1.toList == (((rd_T40 y234 (wrap64 (Int.tmod (IntKind.u64.wrap (a0)) 6))).f4).toList) && (bt241.2.2.2.2.2 == ((rd_T40 y234 (wrap64 (Int.tmod (IntKind.u64.wrap (a0)) 6))).f5))))))) == (((Go.bits .and .i64 a1 255) % 256) != (rd y237 (wrap64 (Int.tmod (IntKind.u64.wrap (a0)) 6)))))) else (none))) else (none)) else (none)))) else (none)) else (none)) else ((some (([(⟨0, (⟨#[]⟩ : ByteArray), false, (⟨#[]⟩ : ByteArray), (⟨#[]⟩ : ByteArray), 0⟩ : S40), (⟨8, (⟨#[97]⟩ : ByteArray), false, t233, (⟨#[]⟩ : ByteArray), 0⟩ : S40), (⟨9, t233, true, (⟨#[]⟩ : ByteArray), (⟨#[]⟩ : ByteArray), 0⟩ : S40), (⟨15, (⟨#[]⟩ : ByteArray), false, (⟨#[]⟩ : ByteArray), (⟨#[]⟩ : ByteArray), 0⟩ : S40), (⟨18, (⟨#[]⟩ : ByteArray), false, (⟨#[]⟩ : ByteArray), (⟨#[]⟩ : ByteArray), 0⟩ : S40), (⟨19, (⟨#[]⟩ : ByteArray), false, (⟨#[]⟩ : ByteArray), (⟨#[116, 105, 116, 108, 101]⟩ : ByteArray), 0⟩ : S40)] : List (S40)) : List (S40))).bind fun y249 => ((some (([60, 34, 39, 45, 62, 60] : List Int) : List Int)).bind fun y252 => (if 0 ≤ (wrap64 (Int.tmod (IntKind.u64.wrap (a0)) 6)) then (if (wrap64 (Int.tmod (IntKind.u64.wrap (a0)) 6)) < (y249.length : Int) then ((tok_Step.f ((rd_T40 y249 (wrap64 (Int.tmod (IntKind.u64.wrap (a0)) 6))).f0) ((rd_T40 y249 (wrap64 (Int.tmod (IntKind.u64.wrap (a0)) 6))).f1) ((rd_T40 y249 (wrap64 (Int.tmod (IntKind.u64.wrap (a0)) 6))).f2) ((rd_T40 y249 (wrap64 (Int.tmod (IntKind.u64.wrap (a0)) 6))).f3) ((rd_T40 y249 (wrap64 (Int.tmod (IntKind.u64.wrap (a0)) 6))).f4) ((rd_T40 y249 (wrap64 (Int.tmod (IntKind.u64.wrap (a0)) 6))).f5) ((Go.bits .and .i64 a1 255) % 256)).bind fun bt256 => (if (wrap64 (Int.tmod (IntKind.u64.wrap (a0)) 6)) < (y252.length : Int) then (some ((bt256.1 == ((rd_T40 y249 (wrap64 (Int.tmod (IntKind.u64.wrap (a0)) 6))).f0) && (bt256.2.1.toList == (((rd_T40 y249 (wrap64 (Int.tmod (IntKind.u64.wrap (a0)) 6))).f1).toList) && (bt256.2.2.1 == ((rd_T40 y249 (wrap64 (Int.tmod (IntKind.u64.wrap (a0)) 6))).f2) && (bt256.2.2.2.1.toList == (((rd_T40 y249 (wrap64 (Int.tmod (IntKind.u64.wrap (a0)) 6))).f3).toList) && (bt256.2.2.2.2.1.toList == (((rd_T40 y249 (wrap64 (Int.tmod (IntKind.u64.wrap (a0)) 6))).f4).toList) && (bt256.2.2.2.2.2 == ((rd_T40 y249 (wrap64 (Int.tmod (IntKind.u64.wrap (a0)) 6))).f5))))))) == (((Go.bits .and .i64 a1 255) % 256) != (rd y252 (wrap64 (Int.tmod (IntKind.u64.wrap (a0)) 6)))))) else (none))) else (none)) else (none)))))) = some r := by rw [if_pos rfl] at H; exact H
  clear H
  have H := H1
  clear H1
  replace H := Option.bind_eq_some_iff.mp H
  obtain ⟨t233, A60, H⟩ := H
  replace H : (if (t233.size : Int) > 9 then (if 0 ≤ 9 then (if 9 ≤ (t233.size : Int) then ((some (([(⟨0, (⟨#[]⟩ : ByteArray), false, (⟨#[]⟩ : ByteArray), (⟨#[]⟩ : ByteArray), 0⟩ : S40), (⟨8, (⟨#[97]⟩ : ByteArray), false, t233.extract 0 9, (⟨#[]⟩ : ByteArray), 0⟩ : S40), (⟨9, t233.extract 0 9, true, (⟨#[]⟩ : ByteArray), (⟨#[]⟩ : ByteArray), 0⟩ : S40), (⟨15, (⟨#[]⟩ : ByteArray), false, (⟨#[]⟩ : ByteArray), (⟨#[]⟩ : ByteArray), 0⟩ : S40), (⟨18, (⟨#[]⟩ : ByteArray), false, (⟨#[]⟩ : ByteArray), (⟨#[]⟩ : ByteArray), 0⟩ : S40), (⟨19, (⟨#[]⟩ : ByteArray), false, (⟨#[]⟩ : ByteArray), (⟨#[116, 105, 116, 108, 101]⟩ : ByteArray), 0⟩ : S40)] : List (S40)) : List (S40))).bind fun y234 => ((some (([60, 34, 39, 45, 62, 60] : List Int) : List Int)).bind fun y237 => (if 0 ≤ (wrap64 (Int.tmod (IntKind.u64.wrap (a0)) 6)) then (if (wrap64 (Int.tmod (IntKind.u64.wrap (a0)) 6)) < (y234.length : Int) then ((tok_Step.f ((rd_T40 y234 (wrap64 (Int.tmod (IntKind.u64.wrap (a0)) 6))).f0) ((rd_T40 y234 (wrap64 (Int.tmod (IntKind.u64.wrap (a0)) 6))).f1) ((rd_T40 y234 (wrap64 (Int.tmod (IntKind.u64.wrap (a0)) 6))).f2) ((rd_T40 y234 (wrap64 (Int.tmod (IntKind.u64.wrap (a0)) 6))).f3) ((rd_T40 y234 (wrap64 (Int.tmod (IntKind.u64.wrap (a0)) 6))).f4) ((rd_T40 y234 (wrap64 (Int.tmod (IntKind.u64.wrap (a0)) 6))).f5) ((Go.bits .and .i64 a1 255) % 256)).bind fun bt241 => (if (wrap64 (Int.tmod (IntKind.u64.wrap (a0)) 6)) < (y237.length : Int) then (some ((bt241.1 == ((rd_T40 y234 (wrap64 (Int.tmod (IntKind.u64.wrap (a0)) 6))).f0) && (bt241.2.1.toList == (((rd_T40 y234 (wrap64 (Int.tmod (IntKind.u64.wrap (a0)) 6))).f1).toList) && (bt241.2.2.1 == ((rd_T40 y234 (wrap64 (Int.tmod (IntKind.u64.wrap (a0)) 6))).f2) && (bt241.2.2.2.1.toList == (((rd_T40 y234 (wrap64 (Int.tmod (IntKind.u64.wrap (a0)) 6))).f3).toList) && (bt241.2.2.2.2.1.toList == (((rd_T40 y234 (wrap64 (Int.tmod (IntKind.u64.wrap (a0)) 6))).f4).toList) && (bt241.2.2.2.2.2 == ((rd_T40 y234 (wrap64 (Int.tmod (IntKind.u64.wrap (a0)) 6))).f5))))))) == (((Go.bits .and .i64 a1 255) % 256) != (rd y237 (wrap64 (Int.tmod (IntKind.u64.wrap (a0)) 6)))))) else (none))) else (none)) else (none)))) else (none)) else (none)) else ((some (([(⟨0, (⟨#[]⟩ : ByteArray), false, (⟨#[]⟩ : ByteArray), (⟨#[]⟩ : ByteArray), 0⟩ : S40), (⟨8, (⟨#[97]⟩ : ByteArray), false, t233, (⟨#[]⟩ : ByteArray), 0⟩ : S40), (⟨9, t233, true, (⟨#[]⟩ : ByteArray), (⟨#[]⟩ : ByteArray), 0⟩ : S40), (⟨15, (⟨#[]⟩ : ByteArray), false, (⟨#[]⟩ : ByteArray), (⟨#[]⟩ : ByteArray), 0⟩ : S40), (⟨18, (⟨#[]⟩ : ByteArray), false, (⟨#[]⟩ : ByteArray), (⟨#[]⟩ : ByteArray), 0⟩ : S40), (⟨19, (⟨#[]⟩ : ByteArray), false, (⟨#[]⟩ : ByteArray), (⟨#[116, 105, 116, 108, 101]⟩ : ByteArray), 0⟩ : S40)] : List (S40)) : List (S40))).bind fun y249 => ((some (([60, 34, 39, 45, 62, 60] : List Int) : List Int)).bind fun y252 => (if 0 ≤ (wrap64 (Int.tmod (IntKind.u64.wrap (a0)) 6)) then (if (wrap64 (Int.tmod (IntKind.u64.wrap (a0)) 6)) < (y249.length : Int) then ((tok_Step.f ((rd_T40 y249 (wrap64 (Int.tmod (IntKind.u64.wrap (a0)) 6))).f0) ((rd_T40 y249 (wrap64 (Int.tmod (IntKind.u64.wrap (a0)) 6))).f1) ((rd_T40 y249 (wrap64 (Int.tmod (IntKind.u64.wrap (a0)) 6))).f2) ((rd_T40 y249 (wrap64 (Int.tmod (IntKind.u64.wrap (a0)) 6))).f3) ((rd_T40 y249 (wrap64 (Int.tmod (IntKind.u64.wrap (a0)) 6))).f4) ((rd_T40 y249 (wrap64 (Int.tmod (IntKind.u64.wrap (a0)) 6))).f5) ((Go.bits .and .i64 a1 255) % 256)).bind fun bt256 => (if (wrap64 (Int.tmod (IntKind.u64.wrap (a0)) 6)) < (y252.length : Int) then (some ((bt256.1 == ((rd_T40 y249 (wrap64 (Int.tmod (IntKind.u64.wrap (a0)) 6))).f0) && (bt256.2.1.toList == (((rd_T40 y249 (wrap64 (Int.tmod (IntKind.u64.wrap (a0)) 6))).f1).toList) && (bt256.2.2.1 == ((rd_T40 y249 (wrap64 (Int.tmod (IntKind.u64.wrap (a0)) 6))).f2) && (bt256.2.2.2.1.toList == (((rd_T40 y249 (wrap64 (Int.tmod (IntKind.u64.wrap (a0)) 6))).f3).toList) && (bt256.2.2.2.2.1.toList == (((rd_T40 y249 (wrap64 (Int.tmod (IntKind.u64.wrap (a0)) 6))).f4).toList) && (bt256.2.2.2.2.2 == ((rd_T40 y249 (wrap64 (Int.tmod (IntKind.u64.wrap (a0)) 6))).f5))))))) == (((Go.bits .and .i64 a1 255) % 256) != (rd y252 (wrap64 (Int.tmod (IntKind.u64.wrap (a0)) 6)))))) else (none))) else (none)) else (none))))) = some r := H
  have A6 := Aside0.mk A60
  clear A60
  by_cases c7 : (t233.size : Int) > 9
  ·rw [if_pos c7] at H
   have c7b0 : decide (9 < (t233.size : Int)) = true := decide_eq_true c7
   have c7b1 : decide (9 < t233.size) = true := decide_eq_true (by omega)
   clear c7
   by_cases c8 : 0 ≤ 9
   ·rw [if_pos c8] at H
    have c8b0 := eq_true c8
    have c8b1 : decide (0 ≤ 9) = true := decide_eq_true c8
    clear c8
    by_cases c9 : 9 ≤ (t233.size : Int)
    ·rw [if_pos c9] at H
     have c9b0 := eq_true c9
     have c9b1 : decide (9 ≤ (t233.size : Int)) = true := decide_eq_true c9
     clear c9
     obtain ⟨y234, hy234⟩ : ∃ y_ : List (S40), y_ = (([(⟨0, (⟨#[]⟩ : ByteArray), false, (⟨#[]⟩ : ByteArray), (⟨#[]⟩ : ByteArray), 0⟩ : S40), (⟨8, (⟨#[97]⟩ : ByteArray), false, t233.extract 0 9, (⟨#[]⟩ : ByteArray), 0⟩ : S40), (⟨9, t233.extract 0 9, true, (⟨#[]⟩ : ByteArray), (⟨#[]⟩ : ByteArray), 0⟩ : S40), (⟨15, (⟨#[]⟩ : ByteArray), false, (⟨#[]⟩ : ByteArray), (⟨#[]⟩ : ByteArray), 0⟩ : S40), (⟨18, (⟨#[]⟩ : ByteArray), false, (⟨#[]⟩ : ByteArray), (⟨#[]⟩ : ByteArray), 0⟩ : S40), (⟨19, (⟨#[]⟩ : ByteArray), false, (⟨#[]⟩ : ByteArray), (⟨#[116, 105, 116, 108, 101]⟩ : ByteArray), 0⟩ : S40)] : List (S40))) := ⟨_, rfl⟩
     replace H : ((some (([60, 34, 39, 45, 62, 60] : List Int) : List Int)).bind fun y237 => (if 0 ≤ (wrap64 (Int.tmod (IntKind.u64.wrap (a0)) 6)) then (if (wrap64 (Int.tmod (IntKind.u64.wrap (a0)) 6)) < (y234.length : Int) then ((tok_Step.f ((rd_T40 y234 (wrap64 (Int.tmod (IntKind.u64.wrap (a0)) 6))).f0) ((rd_T40 y234 (wrap64 (Int.tmod (IntKind.u64.wrap (a0)) 6))).f1) ((rd_T40 y234 (wrap64 (Int.tmod (IntKind.u64.wrap (a0)) 6))).f2) ((rd_T40 y234 (wrap64 (Int.tmod (IntKind.u64.wrap (a0)) 6))).f3) ((rd_T40 y234 (wrap64 (Int.tmod (IntKind.u64.wrap (a0)) 6))).f4) ((rd_T40 y234 (wrap64 (Int.tmod (IntKind.u64.wrap (a0)) 6))).f5) ((Go.bits .and .i64 a1 255) % 256)).bind fun bt241 => (if (wrap64 (Int.tmod (IntKind.u64.wrap (a0)) 6)) < (y237.length : Int) then (some ((bt241.1 == ((rd_T40 y234 (wrap64 (Int.tmod (IntKind.u64.wrap (a0)) 6))).f0) && (bt241.2.1.toList == (((rd_T40 y234 (wrap64 (Int.tmod (IntKind.u64.wrap (a0)) 6))).f1).toList) && (bt241.2.2.1 == ((rd_T40 y234 (wrap64 (Int.tmod (IntKind.u64.wrap (a0)) 6))).f2) && (bt241.2.2.2.1.toList == (((rd_T40 y234 (wrap64 (Int.tmod (IntKind.u64.wrap (a0)) 6))).f3).toList) && (bt241.2.2.2.2.1.toList == (((rd_T40 y234 (wrap64 (Int.tmod (IntKind.u64.wrap (a0)) 6))).f4).toList) && (bt241.2.2.2.2.2 == ((rd_T40 y234 (wrap64 (Int.tmod (IntKind.u64.wrap (a0)) 6))).f5))))))) == (((Go.bits .and .i64 a1 255) % 256) != (rd y237 (wrap64 (Int.tmod (IntKind.u64.wrap (a0)) 6)))))) else (none))) else (none)) else (none))) = some r := by first | (rw [hy234]; with_reducible exact H) | (have H2_ := (Option.bind_some _ _).symm.trans H; rw [hy234]; with_reducible exact H2_) | (have H2_ := (Option.bind_some _ _).symm.trans H; with_reducible exact H2_) | with_reducible exact H | (rw [hy234]; exact H) | exact H
     have Ny234 := Aside0.mk hy234
     clear hy234
     obtain ⟨y237, hy237⟩ : ∃ y_ : List Int, y_ = (([60, 34, 39, 45, 62, 60] : List Int)) := ⟨_, rfl⟩
     replace H : (if 0 ≤ (wrap64 (Int.tmod (IntKind.u64.wrap (a0)) 6)) then (if (wrap64 (Int.tmod (IntKind.u64.wrap (a0)) 6)) < (y234.length : Int) then ((tok_Step.f ((rd_T40 y234 (wrap64 (Int.tmod (IntKind.u64.wrap (a0)) 6))).f0) ((rd_T40 y234 (wrap64 (Int.tmod (IntKind.u64.wrap (a0)) 6))).f1) ((rd_T40 y234 (wrap64 (Int.tmod (IntKind.u64.wrap (a0)) 6))).f2) ((rd_T40 y234 (wrap64 (Int.tmod (IntKind.u64.wrap (a0)) 6))).f3) ((rd_T40 y234 (wrap64 (Int.tmod (IntKind.u64.wrap (a0)) 6))).f4) ((rd_T40 y234 (wrap64 (Int.tmod (IntKind.u64.wrap (a0)) 6))).f5) ((Go.bits .and .i64 a1 255) % 256)).bind fun bt241 => (if (wrap64 (Int.tmod (IntKind.u64.wrap (a0)) 6)) < (y237.length : Int) then (some ((bt241.1 == ((rd_T40 y234 (wrap64 (Int.tmod (IntKind.u64.wrap (a0)) 6))).f0) && (bt241.2.1.toList == (((rd_T40 y234 (wrap64 (Int.tmod (IntKind.u64.wrap (a0)) 6))).f1).toList) && (bt241.2.2.1 == ((rd_T40 y234 (wrap64 (Int.tmod (IntKind.u64.wrap (a0)) 6))).f2) && (bt241.2.2.2.1.toList == (((rd_T40 y234 (wrap64 (Int.tmod (IntKind.u64.wrap (a0)) 6))).f3).toList) && (bt241.2.2.2.2.1.toList == (((rd_T40 y234 (wrap64 (Int.tmod (IntKind.u64.wrap (a0)) 6))).f4).toList) && (bt241.2.2.2.2.2 == ((rd_T40 y234 (wrap64 (Int.tmod (IntKind.u64.wrap (a0)) 6))).f5))))))) == (((Go.bits .and .i64 a1 255) % 256) != (rd y237 (wrap64 (Int.tmod (IntKind.u64.wrap (a0)) 6)))))) else (none))) else (none)) else (none)) = some r := by first | (rw [hy237]; with_reducible exact H) | (have H2_ := (Option.bind_some _ _).symm.trans H; rw [hy237]; with_reducible exact H2_) | (have H2_ := (Option.bind_some _ _).symm.trans H; with_reducible exact H2_) | with_reducible exact H | (rw [hy237]; exact H) | exact H
     have Ny237 := Aside0.mk hy237
     clear hy237
     obtain ⟨ji10, hji10⟩ : ∃ j_ : Int, (wrap64 (Int.tmod (IntKind.u64.wrap (a0)) 6)) = j_ := ⟨_, rfl⟩
     replace H : (if 0 ≤ (ji10) then (if (ji10) < (y234.length : Int) then ((tok_Step.f ((rd_T40 y234 (ji10)).f0) ((rd_T40 y234 (ji10)).f1) ((rd_T40 y234 (ji10)).f2) ((rd_T40 y234 (ji10)).f3) ((rd_T40 y234 (ji10)).f4) ((rd_T40 y234 (ji10)).f5) ((Go.bits .and .i64 a1 255) % 256)).bind fun bt241 => (if (ji10) < (y237.length : Int) then (some ((bt241.1 == ((rd_T40 y234 (ji10)).f0) && (bt241.2.1.toList == (((rd_T40 y234 (ji10)).f1).toList) && (bt241.2.2.1 == ((rd_T40 y234 (ji10)).f2) && (bt241.2.2.2.1.toList == (((rd_T40 y234 (ji10)).f3).toList) && (bt241.2.2.2.2.1.toList == (((rd_T40 y234 (ji10)).f4).toList) && (bt241.2.2.2.2.2 == ((rd_T40 y234 (ji10)).f5))))))) == (((Go.bits .and .i64 a1 255) % 256) != (rd y237 (ji10))))) else (none))) else (none)) else (none)) = some r := by first | (rw [hji10] at H; exact H) | (simp only [hji10] at H ⊢; exact H)
     (try rw [hji10] at A4)
     (try rw [hji10] at A6)
     have hji10w : (IntKind.i64.wrap (Int.tmod (IntKind.u64.wrap (a0)) 6)) = ji10 := (i64_w _).trans hji10
     by_cases c11 : 0 ≤ (ji10)
     ·rw [if_pos c11] at H
      have c11b0 : decide (0 ≤ (ji10)) = true := decide_eq_true c11
      clear c11
      by_cases c12 : (ji10) < (y234.length : Int)
      ·rw [if_pos c12] at H
       have c12b0 : decide ((ji10) < (y234.length : Int)) = true := decide_eq_true c12
       clear c12
       replace H := Option.bind_eq_some_iff.mp H
       obtain ⟨⟨t241, t242, t243, t244, t245, t246⟩, A130, H⟩ := H
       replace H : (if (ji10) < (y237.length : Int) then (some ((t241 == ((rd_T40 y234 (ji10)).f0) && (t242.toList == (((rd_T40 y234 (ji10)).f1).toList) && (t243 == ((rd_T40 y234 (ji10)).f2) && (t244.toList == (((rd_T40 y234 (ji10)).f3).toList) && (t245.toList == (((rd_T40 y234 (ji10)).f4).toList) && (t246 == ((rd_T40 y234 (ji10)).f5))))))) == (((Go.bits .and .i64 a1 255) % 256) != (rd y237 (ji10))))) else (none)) = some r := H
       have A13 := Aside0.mk A130
       clear A130
       by_cases c14 : (ji10) < (y237.length : Int)
       ·rw [if_pos c14] at H
        have c14b0 : decide ((ji10) < (y237.length : Int)) = true := decide_eq_true c14
        clear c14
        obtain rfl := Option.some.inj H
        go_enter Tryd.func7, Tryd.ntmps7
        try go_wp2_with (first | ((with_reducible refine gate_callee (f := 10) rfl ?_); refine goesL_ (some 12) rfl rfl Tryd.func10 (by kernel_rfl) rfl #[] rfl (by (try simp only [List.map_toArray, List.map_cons, List.map_nil]); first | done | rfl | (simp only [List.length_drop, List.length_take]; rfl)) ?_; (with_reducible refine (stolelaw5_awake.calls k  true _ (tabs_below HT.out (by repeat (first | (with_reducible first | exact HB.out | apply below_alloc | apply pw_below_drewN | apply below_drew1) | exact HB.out))) A4.out rfl).mono ?_); rintro e w15 ⟨rfl, hb⟩; refine ⟨_, rfl, ?_⟩; have n0_ := Aside0.mk (below_step (by repeat (first | (with_reducible first | exact HB.out | apply below_alloc | apply pw_below_drewN | apply below_drew1) | exact HB.out)) hb); clear HB; have HB := n0_; clear n0_; (try clear hb); (try clear hb2); (try clear hk); (try clear hi)) | ((with_reducible refine gate_callee (f := 13) rfl ?_); refine goesL_ (some 18) rfl rfl Tryd.func13 (by kernel_rfl) rfl #[.string a2, .int .u8 0] rfl (by (try simp only [List.map_toArray, List.map_cons, List.map_nil]); first | done | rfl | (simp only [List.length_drop, List.length_take]; rfl)) ?_; (with_reducible refine (stolelaw5_quiet.calls k a2 0 t233 _ A6.out).mono ?_); rintro e w' ⟨rfl, ⟨nd, rfl⟩⟩; refine ⟨_, rfl, ?_⟩) | ((with_reducible refine gate_dst (N := 32) rfl ?_); refine Kd.R_lit k40 _ 40 ?hg (N := 32) ?hd (xs := ([(⟨0, (⟨#[]⟩ : ByteArray), false, (⟨#[]⟩ : ByteArray), (⟨#[]⟩ : ByteArray), 0⟩ : S40), (⟨8, (⟨#[97]⟩ : ByteArray), false, t233.extract 0 9, (⟨#[]⟩ : ByteArray), 0⟩ : S40), (⟨9, t233.extract 0 9, true, (⟨#[]⟩ : ByteArray), (⟨#[]⟩ : ByteArray), 0⟩ : S40), (⟨15, (⟨#[]⟩ : ByteArray), false, (⟨#[]⟩ : ByteArray), (⟨#[]⟩ : ByteArray), 0⟩ : S40), (⟨18, (⟨#[]⟩ : ByteArray), false, (⟨#[]⟩ : ByteArray), (⟨#[]⟩ : ByteArray), 0⟩ : S40), (⟨19, (⟨#[]⟩ : ByteArray), false, (⟨#[]⟩ : ByteArray), (⟨#[116, 105, 116, 108, 101]⟩ : ByteArray), 0⟩ : S40)] : List (S40))) (inner := [.int .i64 0, .string (⟨#[]⟩ : ByteArray), .bool false, .string (⟨#[]⟩ : ByteArray), .string (⟨#[]⟩ : ByteArray), .int .i64 0, .int .i64 8, .string (⟨#[97]⟩ : ByteArray), .bool false, .string (t233.extract 0 9), .string (⟨#[]⟩ : ByteArray), .int .i64 0, .int .i64 9, .string (t233.extract 0 9), .bool true, .string (⟨#[]⟩ : ByteArray), .string (⟨#[]⟩ : ByteArray), .int .i64 0, .int .i64 15, .string (⟨#[]⟩ : ByteArray), .bool false, .string (⟨#[]⟩ : ByteArray), .string (⟨#[]⟩ : ByteArray), .int .i64 0, .int .i64 18, .string (⟨#[]⟩ : ByteArray), .bool false, .string (⟨#[]⟩ : ByteArray), .string (⟨#[]⟩ : ByteArray), .int .i64 0, .int .i64 19, .string (⟨#[]⟩ : ByteArray), .bool false, .string (⟨#[]⟩ : ByteArray), .string (⟨#[116, 105, 116, 108, 101]⟩ : ByteArray), .int .i64 0]) (ok := fun _ => True) (okp := fun _ => True) ?hr ?hp (fun _ hk => hk) trivial (Below.refl _ _) (Nat.le_refl _) (by simp) ?_; (case hd => rfl); (case hg => rfl); (case hr => first | (go_simp; done) | (go_simp; rfl)); (case hp => exact (Reps.c6 (show Kd.M k40 _ _ _ (⟨0, (⟨#[]⟩ : ByteArray), false, (⟨#[]⟩ : ByteArray), (⟨#[]⟩ : ByteArray), 0⟩ : S40) [.int .i64 0, .string (⟨#[]⟩ : ByteArray), .bool false, .string (⟨#[]⟩ : ByteArray), .string (⟨#[]⟩ : ByteArray), .int .i64 0] from (k40_mkM _ _ _ (⟨0, (⟨#[]⟩ : ByteArray), false, (⟨#[]⟩ : ByteArray), (⟨#[]⟩ : ByteArray), 0⟩ : S40) )) (Reps.c6 (show Kd.M k40 _ _ _ (⟨8, (⟨#[97]⟩ : ByteArray), false, t233.extract 0 9, (⟨#[]⟩ : ByteArray), 0⟩ : S40) [.int .i64 8, .string (⟨#[97]⟩ : ByteArray), .bool false, .string (t233.extract 0 9), .string (⟨#[]⟩ : ByteArray), .int .i64 0] from (k40_mkM _ _ _ (⟨8, (⟨#[97]⟩ : ByteArray), false, t233.extract 0 9, (⟨#[]⟩ : ByteArray), 0⟩ : S40) )) (Reps.c6 (show Kd.M k40 _ _ _ (⟨9, t233.extract 0 9, true, (⟨#[]⟩ : ByteArray), (⟨#[]⟩ : ByteArray), 0⟩ : S40) [.int .i64 9, .string (t233.extract 0 9), .bool true, .string (⟨#[]⟩ : ByteArray), .string (⟨#[]⟩ : ByteArray), .int .i64 0] from (k40_mkM _ _ _ (⟨9, t233.extract 0 9, true, (⟨#[]⟩ : ByteArray), (⟨#[]⟩ : ByteArray), 0⟩ : S40) )) (Reps.c6 (show Kd.M k40 _ _ _ (⟨15, (⟨#[]⟩ : ByteArray), false, (⟨#[]⟩ : ByteArray), (⟨#[]⟩ : ByteArray), 0⟩ : S40) [.int .i64 15, .string (⟨#[]⟩ : ByteArray), .bool false, .string (⟨#[]⟩ : ByteArray), .string (⟨#[]⟩ : ByteArray), .int .i64 0] from (k40_mkM _ _ _ (⟨15, (⟨#[]⟩ : ByteArray), false, (⟨#[]⟩ : ByteArray), (⟨#[]⟩ : ByteArray), 0⟩ : S40) )) (Reps.c6 (show Kd.M k40 _ _ _ (⟨18, (⟨#[]⟩ : ByteArray), false, (⟨#[]⟩ : ByteArray), (⟨#[]⟩ : ByteArray), 0⟩ : S40) [.int .i64 18, .string (⟨#[]⟩ : ByteArray), .bool false, .string (⟨#[]⟩ : ByteArray), .string (⟨#[]⟩ : ByteArray), .int .i64 0] from (k40_mkM _ _ _ (⟨18, (⟨#[]⟩ : ByteArray), false, (⟨#[]⟩ : ByteArray), (⟨#[]⟩ : ByteArray), 0⟩ : S40) )) (Reps.c6 (show Kd.M k40 _ _ _ (⟨19, (⟨#[]⟩ : ByteArray), false, (⟨#[]⟩ : ByteArray), (⟨#[116, 105, 116, 108, 101]⟩ : ByteArray), 0⟩ : S40) [.int .i64 19, .string (⟨#[]⟩ : ByteArray), .bool false, .string (⟨#[]⟩ : ByteArray), .string (⟨#[116, 105, 116, 108, 101]⟩ : ByteArray), .int .i64 0] from (k40_mkM _ _ _ (⟨19, (⟨#[]⟩ : ByteArray), false, (⟨#[]⟩ : ByteArray), (⟨#[116, 105, 116, 108, 101]⟩ : ByteArray), 0⟩ : S40) )) (Reps.none _ _)))))))); intro v235 w16 ho17 hb hg_ hnew_; clear hg_ hnew_; (first | rw [← Ny234.out] at ho17 | (simp only [Int.reduceToNat] at ho17; rw [← Ny234.out] at ho17)); have n0_ := Aside0.mk (Kd.R_lower ho17 (below_size (by repeat (first | (with_reducible first | exact HB.out | apply below_alloc | apply pw_below_drewN | apply below_drew1) | exact HB.out)))); have n1_ := Aside0.mk (below_step (by repeat (first | (with_reducible first | exact HB.out | apply below_alloc | apply pw_below_drewN | apply below_drew1) | exact HB.out)) hb); clear HB; have HO236 := n0_; have HB := n1_; clear n0_ n1_; clear hb ho17) | ((with_reducible refine gate_dst (N := 33) rfl ?_); refine Kd.R_lit (Kd.int .u8) _ 5 ?hg (N := 33) ?hd (xs := ([60, 34, 39, 45, 62, 60] : List Int)) (inner := [.int .u8 60, .int .u8 34, .int .u8 39, .int .u8 45, .int .u8 62, .int .u8 60]) (ok := fun _ => True) (okp := fun _ => True) ?hr ?hp (fun _ hk => hk) trivial (Below.refl _ _) (Nat.le_refl _) (by simp) ?_; (case hd => rfl); (case hg => rfl); (case hr => first | (go_simp; done) | (go_simp; rfl)); (case hp => exact (Reps.one (show Kd.M (Kd.int .u8) _ _ _ 60 [.int .u8 60] from rfl) (Reps.one (show Kd.M (Kd.int .u8) _ _ _ 34 [.int .u8 34] from rfl) (Reps.one (show Kd.M (Kd.int .u8) _ _ _ 39 [.int .u8 39] from rfl) (Reps.one (show Kd.M (Kd.int .u8) _ _ _ 45 [.int .u8 45] from rfl) (Reps.one (show Kd.M (Kd.int .u8) _ _ _ 62 [.int .u8 62] from rfl) (Reps.one (show Kd.M (Kd.int .u8) _ _ _ 60 [.int .u8 60] from rfl) (Reps.none _ _)))))))); intro v238 w18 ho19 hb hg_ hnew_; clear hg_ hnew_; (first | rw [← Ny237.out] at ho19 | (simp only [Int.reduceToNat] at ho19; rw [← Ny237.out] at ho19)); have n0_ := Aside0.mk (Kd.R_below (by (with_reducible repeat (first | apply Kd.R_alloc | apply Kd.R_drewN | apply Kd.R_drew)); exact HO236.out) hb); have n1_ := Aside0.mk (Kd.R_lower ho19 (below_size (by repeat (first | (with_reducible first | exact HB.out | apply below_alloc | apply pw_below_drewN | apply below_drew1) | exact HB.out)))); have n2_ := Aside0.mk (below_step (by repeat (first | (with_reducible first | exact HB.out | apply below_alloc | apply pw_below_drewN | apply below_drew1) | exact HB.out)) hb); clear HO236; clear HB; have HO236 := n0_; have HO239 := n1_; have HB := n2_; clear n0_ n1_ n2_; clear hb ho19))
        have n0_ := Aside0.mk (Kd.R_drew HO236.out)
        have n1_ := Aside0.mk (Kd.R_drew HO239.out)
        have n2_ := Aside0.mk (below_drew1 HB.out)
        clear HO236
        clear HO239
        clear HB
        have HO236 := n0_
        have HO239 := n1_
        have HB := n2_
        clear n0_ n1_ n2_
        obtain ⟨Ao21, co21, eo21⟩ := Kd.R_slice HO236.out
        (first | subst eo21 | (injection eo21 with f1_ f2_ f3_; have f4_ := f1_.symm; have f5_ := f3_.symm; clear f1_ f2_ f3_; subst f4_; subst f5_))
        have p240 : 0 ≤ ((ji10) : Int) := of_decide_eq_true (by first | (with_reducible assumption) | assumption)
        have q240 : (ji10) < (y234.length : Int) := of_decide_eq_true (by first | (with_reducible assumption) | assumption)
        obtain ⟨ad240, e240, hx240_0, hx240_1, hx240_2, hx240_3, hx240_4, hx240_5⟩ := at_T40 (Kd.R_reads' HO236.out).2.2 (ji10) p240 q240
        cases e240
        replace p240 := eq_true p240
        replace q240 := eq_true q240
        have p247 : 0 ≤ ((ji10) : Int) := of_decide_eq_true (by first | (with_reducible assumption) | assumption)
        have q247 : (ji10) < (y234.length : Int) := of_decide_eq_true (by first | (with_reducible assumption) | assumption)
        obtain ⟨ad247, e247, hx247_0, hx247_1, hx247_2, hx247_3, hx247_4, hx247_5⟩ := at_T40 (Kd.R_reads' HO236.out).2.2 (ji10) p247 q247
        obtain rfl : ad240 = ad247 := (by injection e247)
        replace p247 := eq_true p247
        replace q247 := eq_true q247
        obtain ⟨Ao22, co22, eo22⟩ := Kd.R_slice HO239.out
        (first | subst eo22 | (injection eo22 with f1_ f2_ f3_; have f4_ := f1_.symm; have f5_ := f3_.symm; clear f1_ f2_ f3_; subst f4_; subst f5_))
        have p248 : 0 ≤ ((ji10) : Int) := of_decide_eq_true (by first | (with_reducible assumption) | assumption)
        have q248 : (ji10) < (y237.length : Int) := of_decide_eq_true (by first | (with_reducible assumption) | assumption)
        obtain ⟨ad248, e248, hx248_0⟩ := Kd.at_int (Kd.R_reads' HO239.out).2.2 (ji10) p248 q248
        cases e248
        replace p248 := eq_true p248
        replace q248 := eq_true q248
        refine start_ (n := 19) (S := fun w' => w'.cell? (ad240.add (((ji10)).toNat * 6)) = some (.int .i64 ((rd_T40 y234 (ji10)).f0)) ∧ w'.cell? ⟨(ad240.add (((ji10)).toNat * 6)).block, (ad240.add (((ji10)).toNat * 6)).off + 1, none⟩ = some (.string ((rd_T40 y234 (ji10)).f1)) ∧ w'.cell? ⟨(ad240.add (((ji10)).toNat * 6)).block, (ad240.add (((ji10)).toNat * 6)).off + 2, none⟩ = some (.bool ((rd_T40 y234 (ji10)).f2)) ∧ w'.cell? ⟨(ad240.add (((ji10)).toNat * 6)).block, (ad240.add (((ji10)).toNat * 6)).off + 3, none⟩ = some (.string ((rd_T40 y234 (ji10)).f3)) ∧ w'.cell? ⟨(ad240.add (((ji10)).toNat * 6)).block, (ad240.add (((ji10)).toNat * 6)).off + 4, none⟩ = some (.string ((rd_T40 y234 (ji10)).f4)) ∧ w'.cell? ⟨(ad240.add (((ji10)).toNat * 6)).block, (ad240.add (((ji10)).toNat * 6)).off + 5, none⟩ = some (.int .i64 ((rd_T40 y234 (ji10)).f5)) ∧ w'.cell? (ad240.add (((ji10)).toNat * 6)) = some (.int .i64 ((rd_T40 y234 (ji10)).f0)) ∧ w'.cell? ⟨(ad240.add (((ji10)).toNat * 6)).block, (ad240.add (((ji10)).toNat * 6)).off + 1, none⟩ = some (.string ((rd_T40 y234 (ji10)).f1)) ∧ w'.cell? ⟨(ad240.add (((ji10)).toNat * 6)).block, (ad240.add (((ji10)).toNat * 6)).off + 2, none⟩ = some (.bool ((rd_T40 y234 (ji10)).f2)) ∧ w'.cell? ⟨(ad240.add (((ji10)).toNat * 6)).block, (ad240.add (((ji10)).toNat * 6)).off + 3, none⟩ = some (.string ((rd_T40 y234 (ji10)).f3)) ∧ w'.cell? ⟨(ad240.add (((ji10)).toNat * 6)).block, (ad240.add (((ji10)).toNat * 6)).off + 4, none⟩ = some (.string ((rd_T40 y234 (ji10)).f4)) ∧ w'.cell? ⟨(ad240.add (((ji10)).toNat * 6)).block, (ad240.add (((ji10)).toNat * 6)).off + 5, none⟩ = some (.int .i64 ((rd_T40 y234 (ji10)).f5)) ∧ w'.cell? (ad248.add ((ji10)).toNat) = some (.int .u8 (rd y237 (ji10)))) (ds := []) #[F,F,F,F,F,F,F,F,F,F,F,F,F,F,F,F,F,F,F] (by kernel_rfl) rfl rfl ⟨hx240_0, hx240_1, hx240_2, hx240_3, hx240_4, hx240_5, hx247_0, hx247_1, hx247_2, hx247_3, hx247_4, hx247_5, hx248_0⟩ (fun hHeld => ?_); refine with_tabW stolelaw5_StepStays.tab10 stolelaw5_StepStays.bits10 (fun HT_ HW_ => ?_)
        generalize w18.drew = w20 at HO236 HO239 HB hx240_0 hx240_1 hx240_2 hx240_3 hx240_4 hx240_5 hx247_0 hx247_1 hx247_2 hx247_3 hx247_4 hx247_5 hx248_0 hHeld ⊢
        refine pS 0 38 #[T,F,F,F,F,F,F,F,F,F,F,F,F,F,F,F,F,F,F] ?_ (hc := any_of HT_.out (by kernel_rfl))
        refine pS 1 39 #[T,T,F,F,F,F,F,F,F,F,F,F,F,F,F,F,F,F,F] ?_ (hc := any_of HT_.out (by kernel_rfl))
        refine pS 2 40 #[T,T,T,F,F,F,F,F,F,F,F,F,F,F,F,F,F,F,F] ?_ (hc := any_of HT_.out (by kernel_rfl))
        refine pS 4 42 #[T,T,T,F,T,F,F,F,F,F,F,F,F,F,F,F,F,F,F] ?_ (hc := any_of HT_.out (by kernel_rfl))
        refine pS 6 44 #[T,T,T,F,T,F,T,F,F,F,F,F,F,F,F,F,F,F,F] ?_ (hc := any_of HT_.out (by kernel_rfl))
        refine pS 7 45 #[T,T,T,F,T,F,T,T,F,F,F,F,F,F,F,F,F,F,F] ?_ (hc := any_of HT_.out (by kernel_rfl))
        refine pS 8 46 #[T,T,T,F,T,F,T,T,T,F,F,F,F,F,F,F,F,F,F] ?_ (hc := any_of HT_.out (by kernel_rfl))
        refine pS 11 49 #[T,T,T,F,T,F,T,T,T,F,F,T,F,F,F,F,F,F,F] ?_ (hc := any_of HT_.out (by kernel_rfl))
        refine pS 12 50 #[T,T,T,F,T,F,T,T,T,F,F,T,T,F,F,F,F,F,F] ?_ (hc := any_of HT_.out (by kernel_rfl))
        refine pS 13 51 #[T,T,T,F,T,F,T,T,T,F,F,T,T,T,F,F,F,F,F] ?_ (hc := any_of HT_.out (by kernel_rfl))
        refine pS 14 52 #[T,T,T,F,T,F,T,T,T,F,F,T,T,T,T,F,F,F,F] ?_ (hc := any_of HT_.out (by kernel_rfl))
        refine take_ (i := 3) (N := some 41) (v := ?_) (a' := ?_) #[T,T,T,T,T,F,T,T,T,F,F,T,T,T,T,F,F,F,F] rfl rfl (take_ofW HT_.out HW_.out (by kernel_rfl)) (fun _ _ _ h => h) (Or.inl ⟨by rfl, ?_⟩) hHeld ?_ ?_
        rotate_left
        ·rintro w' ⟨s0, s1, s2, s3, s4, s5, s6, s7, s8, s9, s10, s11, s12⟩
         go_simp
         with_reducible rfl
        rotate_left
        ·simp only [Act.put, zA, zZ, zS, i64_w, i32_w]
         rfl
        refine take_ (i := 9) (N := some 47) (v := ?_) (a' := ?_) #[T,T,T,T,T,F,T,T,T,T,F,T,T,T,T,F,F,F,F] rfl rfl (take_ofW HT_.out HW_.out (by kernel_rfl)) (fun _ _ _ h => h) (Or.inl ⟨by rfl, ?_⟩) hHeld ?_ ?_
        rotate_left
        ·rintro w' ⟨s0, s1, s2, s3, s4, s5, s6, s7, s8, s9, s10, s11, s12⟩
         go_simp
         with_reducible rfl
        rotate_left
        ·simp only [Act.put, zA, zZ, zS, i64_w, i32_w]
         rfl
        refine take_ (i := 15) (N := some 53) (v := ?_) (a' := ?_) #[T,T,T,T,T,F,T,T,T,T,F,T,T,T,T,T,F,F,F] rfl rfl (take_ofW HT_.out HW_.out (by kernel_rfl)) (fun _ _ _ h => h) (Or.inl ⟨by rfl, ?_⟩) hHeld ?_ ?_
        rotate_left
        ·rintro w' ⟨s0, s1, s2, s3, s4, s5, s6, s7, s8, s9, s10, s11, s12⟩
         go_simp
         with_reducible rfl
        rotate_left
        ·simp only [Act.put, zA, zZ, zS, i64_w, i32_w]
         rfl
        refine pS 16 54 #[T,T,T,T,T,F,T,T,T,T,F,T,T,T,T,T,T,F,F] ?_ (hc := any_of HT_.out (by kernel_rfl))
        refine one_ (i := 5) (N := some 43) #[T,T,T,T,T,T,T,T,T,T,F,T,T,T,T,T,T,F,F] rfl rfl (one_of HT_.out (by kernel_rfl)) (by decide) (fun K hK => ?_)
        refine goes_ Tryd.func15 (by kernel_rfl) rfl #[.agg #[.int .i64 ((rd_T40 y234 (ji10)).f0), .string ((rd_T40 y234 (ji10)).f1), .bool ((rd_T40 y234 (ji10)).f2), .string ((rd_T40 y234 (ji10)).f3), .string ((rd_T40 y234 (ji10)).f4), .int .i64 ((rd_T40 y234 (ji10)).f5)], .int .u8 ((Go.bits .and .i64 a1 255) % 256)] (by rfl) rfl rfl (by (try simp only [List.map_toArray, List.map_cons, List.map_nil]); first | done | (simp only [hji10]; rfl) | rfl | (simp only [List.length_drop, List.length_take]; rfl)) ?_
        with_reducible refine (tok_Step.calls ((rd_T40 y234 (ji10)).f0) ((rd_T40 y234 (ji10)).f1) ((rd_T40 y234 (ji10)).f2) ((rd_T40 y234 (ji10)).f3) ((rd_T40 y234 (ji10)).f4) ((rd_T40 y234 (ji10)).f5) ((Go.bits .and .i64 a1 255) % 256) t241 t242 t243 t244 t245 t246 _ A13.out).mono ?_
        rintro e w23 ⟨rfl, hb⟩
        have HS0_ := (hb.cell (World.block_lt_of_cell? _ _ (hHeld.1))).trans (hHeld.1)
        have HS1_ := (hb.cell (World.block_lt_of_cell? _ _ (hHeld.2.1))).trans (hHeld.2.1)
        have HS2_ := (hb.cell (World.block_lt_of_cell? _ _ (hHeld.2.2.1))).trans (hHeld.2.2.1)
        have HS3_ := (hb.cell (World.block_lt_of_cell? _ _ (hHeld.2.2.2.1))).trans (hHeld.2.2.2.1)
        have HS4_ := (hb.cell (World.block_lt_of_cell? _ _ (hHeld.2.2.2.2.1))).trans (hHeld.2.2.2.2.1)
        have HS5_ := (hb.cell (World.block_lt_of_cell? _ _ (hHeld.2.2.2.2.2.1))).trans (hHeld.2.2.2.2.2.1)
        have HS6_ := (hb.cell (World.block_lt_of_cell? _ _ (hHeld.2.2.2.2.2.2.1))).trans (hHeld.2.2.2.2.2.2.1)
        have HS7_ := (hb.cell (World.block_lt_of_cell? _ _ (hHeld.2.2.2.2.2.2.2.1))).trans (hHeld.2.2.2.2.2.2.2.1)
        have HS8_ := (hb.cell (World.block_lt_of_cell? _ _ (hHeld.2.2.2.2.2.2.2.2.1))).trans (hHeld.2.2.2.2.2.2.2.2.1)
        have HS9_ := (hb.cell (World.block_lt_of_cell? _ _ (hHeld.2.2.2.2.2.2.2.2.2.1))).trans (hHeld.2.2.2.2.2.2.2.2.2.1)
        have HS10_ := (hb.cell (World.block_lt_of_cell? _ _ (hHeld.2.2.2.2.2.2.2.2.2.2.1))).trans (hHeld.2.2.2.2.2.2.2.2.2.2.1)
        have HS11_ := (hb.cell (World.block_lt_of_cell? _ _ (hHeld.2.2.2.2.2.2.2.2.2.2.2.1))).trans (hHeld.2.2.2.2.2.2.2.2.2.2.2.1)
        have HS12_ := (hb.cell (World.block_lt_of_cell? _ _ (hHeld.2.2.2.2.2.2.2.2.2.2.2.2))).trans (hHeld.2.2.2.2.2.2.2.2.2.2.2.2)
        refine ⟨_, rfl, ?_⟩
        have n0_ := Aside0.mk (Kd.R_below (by (with_reducible repeat (first | apply Kd.R_alloc | apply Kd.R_drewN | apply Kd.R_drew)); exact HO236.out) hb)
        have n1_ := Aside0.mk (Kd.R_below (by (with_reducible repeat (first | apply Kd.R_alloc | apply Kd.R_drewN | apply Kd.R_drew)); exact HO239.out) hb)
        have n2_ := Aside0.mk (below_step (by repeat (first | (with_reducible first | exact HB.out | apply below_alloc | apply pw_below_drewN | apply below_drew1) | exact HB.out)) hb)
        clear HO236
        clear HO239
        clear HB
        have HO236 := n0_
        have HO239 := n1_
        have HB := n2_
        clear n0_ n1_ n2_
        (try clear hb)
        (try clear hb2)
        (try clear hk)
        (try clear hi)
        refine hK.out _ _ ⟨HS0_, HS1_, HS2_, HS3_, HS4_, HS5_, HS6_, HS7_, HS8_, HS9_, HS10_, HS11_, HS12_⟩ (fun hHeld => ?_)
        clear hK K
        refine norm_ (a' := ?_) ?_ ?_
        rotate_left
        ·show Act.put _ (some 43) _ = _
         simp only [Act.put, zA, zZ, zS, i64_w, i32_w]
         rfl
        refine pS 10 48 #[T,T,T,T,T,T,T,T,T,T,T,T,T,T,T,T,T,F,F] ?_ (hc := any_of HT_.out (by kernel_rfl))
        refine pS 17 55 #[T,T,T,T,T,T,T,T,T,T,T,T,T,T,T,T,T,T,F] ?_ (hc := any_of HT_.out (by kernel_rfl))
        refine pS 18 6 #[T,T,T,T,T,T,T,T,T,T,T,T,T,T,T,T,T,T,T] ?_ (hc := any_of HT_.out (by kernel_rfl))
        refine done_ (done_of HT_.out (by kernel_rfl)) ?_
        try go_wp2
        go_ret
        exact ⟨by first | rfl | (simp [errW_none, errW_some] <;> rfl) | (simp only [← hji10]; first | rfl | (simp [errW_none, errW_some] <;> rfl)) | (simp [*, errW_none, errW_some] <;> rfl), by repeat (first | (with_reducible first | exact HB.out | apply below_alloc | apply pw_below_drewN | apply below_drew1) | exact HB.out)⟩
       ·rw [if_neg c14] at H
        exact absurd H (by simp)
      ·rw [if_neg c12] at H
       exact absurd H (by simp)
     ·rw [if_neg c11] at H
      exact absurd H (by simp)
    ·rw [if_neg c9] at H
     exact absurd H (by simp)
   ·rw [if_neg c8] at H
    exact absurd H (by simp)
  ·rw [if_neg c7] at H
   have c7b0 : decide (9 < (t233.size : Int)) = false := decide_eq_false c7
   have c7b1 : decide (9 < t233.size) = false := decide_eq_false (by omega)
   clear c7
   obtain ⟨y249, hy249⟩ : ∃ y_ : List (S40), y_ = (([(⟨0, (⟨#[]⟩ : ByteArray), false, (⟨#[]⟩ : ByteArray), (⟨#[]⟩ : ByteArray), 0⟩ : S40), (⟨8, (⟨#[97]⟩ : ByteArray), false, t233, (⟨#[]⟩ : ByteArray), 0⟩ : S40), (⟨9, t233, true, (⟨#[]⟩ : ByteArray), (⟨#[]⟩ : ByteArray), 0⟩ : S40), (⟨15, (⟨#[]⟩ : ByteArray), false, (⟨#[]⟩ : ByteArray), (⟨#[]⟩ : ByteArray), 0⟩ : S40), (⟨18, (⟨#[]⟩ : ByteArray), false, (⟨#[]⟩ : ByteArray), (⟨#[]⟩ : ByteArray), 0⟩ : S40), (⟨19, (⟨#[]⟩ : ByteArray), false, (⟨#[]⟩ : ByteArray), (⟨#[116, 105, 116, 108, 101]⟩ : ByteArray), 0⟩ : S40)] : List (S40))) := ⟨_, rfl⟩
   replace H : ((some (([60, 34, 39, 45, 62, 60] : List Int) : List Int)).bind fun y252 => (if 0 ≤ (wrap64 (Int.tmod (IntKind.u64.wrap (a0)) 6)) then (if (wrap64 (Int.tmod (IntKind.u64.wrap (a0)) 6)) < (y249.length : Int) then ((tok_Step.f ((rd_T40 y249 (wrap64 (Int.tmod (IntKind.u64.wrap (a0)) 6))).f0) ((rd_T40 y249 (wrap64 (Int.tmod (IntKind.u64.wrap (a0)) 6))).f1) ((rd_T40 y249 (wrap64 (Int.tmod (IntKind.u64.wrap (a0)) 6))).f2) ((rd_T40 y249 (wrap64 (Int.tmod (IntKind.u64.wrap (a0)) 6))).f3) ((rd_T40 y249 (wrap64 (Int.tmod (IntKind.u64.wrap (a0)) 6))).f4) ((rd_T40 y249 (wrap64 (Int.tmod (IntKind.u64.wrap (a0)) 6))).f5) ((Go.bits .and .i64 a1 255) % 256)).bind fun bt256 => (if (wrap64 (Int.tmod (IntKind.u64.wrap (a0)) 6)) < (y252.length : Int) then (some ((bt256.1 == ((rd_T40 y249 (wrap64 (Int.tmod (IntKind.u64.wrap (a0)) 6))).f0) && (bt256.2.1.toList == (((rd_T40 y249 (wrap64 (Int.tmod (IntKind.u64.wrap (a0)) 6))).f1).toList) && (bt256.2.2.1 == ((rd_T40 y249 (wrap64 (Int.tmod (IntKind.u64.wrap (a0)) 6))).f2) && (bt256.2.2.2.1.toList == (((rd_T40 y249 (wrap64 (Int.tmod (IntKind.u64.wrap (a0)) 6))).f3).toList) && (bt256.2.2.2.2.1.toList == (((rd_T40 y249 (wrap64 (Int.tmod (IntKind.u64.wrap (a0)) 6))).f4).toList) && (bt256.2.2.2.2.2 == ((rd_T40 y249 (wrap64 (Int.tmod (IntKind.u64.wrap (a0)) 6))).f5))))))) == (((Go.bits .and .i64 a1 255) % 256) != (rd y252 (wrap64 (Int.tmod (IntKind.u64.wrap (a0)) 6)))))) else (none))) else (none)) else (none))) = some r := by first | (rw [hy249]; with_reducible exact H) | (have H2_ := (Option.bind_some _ _).symm.trans H; rw [hy249]; with_reducible exact H2_) | (have H2_ := (Option.bind_some _ _).symm.trans H; with_reducible exact H2_) | with_reducible exact H | (rw [hy249]; exact H) | exact H
   have Ny249 := Aside0.mk hy249
   clear hy249
   obtain ⟨y252, hy252⟩ : ∃ y_ : List Int, y_ = (([60, 34, 39, 45, 62, 60] : List Int)) := ⟨_, rfl⟩
   replace H : (if 0 ≤ (wrap64 (Int.tmod (IntKind.u64.wrap (a0)) 6)) then (if (wrap64 (Int.tmod (IntKind.u64.wrap (a0)) 6)) < (y249.length : Int) then ((tok_Step.f ((rd_T40 y249 (wrap64 (Int.tmod (IntKind.u64.wrap (a0)) 6))).f0) ((rd_T40 y249 (wrap64 (Int.tmod (IntKind.u64.wrap (a0)) 6))).f1) ((rd_T40 y249 (wrap64 (Int.tmod (IntKind.u64.wrap (a0)) 6))).f2) ((rd_T40 y249 (wrap64 (Int.tmod (IntKind.u64.wrap (a0)) 6))).f3) ((rd_T40 y249 (wrap64 (Int.tmod (IntKind.u64.wrap (a0)) 6))).f4) ((rd_T40 y249 (wrap64 (Int.tmod (IntKind.u64.wrap (a0)) 6))).f5) ((Go.bits .and .i64 a1 255) % 256)).bind fun bt256 => (if (wrap64 (Int.tmod (IntKind.u64.wrap (a0)) 6)) < (y252.length : Int) then (some ((bt256.1 == ((rd_T40 y249 (wrap64 (Int.tmod (IntKind.u64.wrap (a0)) 6))).f0) && (bt256.2.1.toList == (((rd_T40 y249 (wrap64 (Int.tmod (IntKind.u64.wrap (a0)) 6))).f1).toList) && (bt256.2.2.1 == ((rd_T40 y249 (wrap64 (Int.tmod (IntKind.u64.wrap (a0)) 6))).f2) && (bt256.2.2.2.1.toList == (((rd_T40 y249 (wrap64 (Int.tmod (IntKind.u64.wrap (a0)) 6))).f3).toList) && (bt256.2.2.2.2.1.toList == (((rd_T40 y249 (wrap64 (Int.tmod (IntKind.u64.wrap (a0)) 6))).f4).toList) && (bt256.2.2.2.2.2 == ((rd_T40 y249 (wrap64 (Int.tmod (IntKind.u64.wrap (a0)) 6))).f5))))))) == (((Go.bits .and .i64 a1 255) % 256) != (rd y252 (wrap64 (Int.tmod (IntKind.u64.wrap (a0)) 6)))))) else (none))) else (none)) else (none)) = some r := by first | (rw [hy252]; with_reducible exact H) | (have H2_ := (Option.bind_some _ _).symm.trans H; rw [hy252]; with_reducible exact H2_) | (have H2_ := (Option.bind_some _ _).symm.trans H; with_reducible exact H2_) | with_reducible exact H | (rw [hy252]; exact H) | exact H
   have Ny252 := Aside0.mk hy252
   clear hy252
   obtain ⟨ji24, hji24⟩ : ∃ j_ : Int, (wrap64 (Int.tmod (IntKind.u64.wrap (a0)) 6)) = j_ := ⟨_, rfl⟩
   replace H : (if 0 ≤ (ji24) then (if (ji24) < (y249.length : Int) then ((tok_Step.f ((rd_T40 y249 (ji24)).f0) ((rd_T40 y249 (ji24)).f1) ((rd_T40 y249 (ji24)).f2) ((rd_T40 y249 (ji24)).f3) ((rd_T40 y249 (ji24)).f4) ((rd_T40 y249 (ji24)).f5) ((Go.bits .and .i64 a1 255) % 256)).bind fun bt256 => (if (ji24) < (y252.length : Int) then (some ((bt256.1 == ((rd_T40 y249 (ji24)).f0) && (bt256.2.1.toList == (((rd_T40 y249 (ji24)).f1).toList) && (bt256.2.2.1 == ((rd_T40 y249 (ji24)).f2) && (bt256.2.2.2.1.toList == (((rd_T40 y249 (ji24)).f3).toList) && (bt256.2.2.2.2.1.toList == (((rd_T40 y249 (ji24)).f4).toList) && (bt256.2.2.2.2.2 == ((rd_T40 y249 (ji24)).f5))))))) == (((Go.bits .and .i64 a1 255) % 256) != (rd y252 (ji24))))) else (none))) else (none)) else (none)) = some r := by first | (rw [hji24] at H; exact H) | (simp only [hji24] at H ⊢; exact H)
   (try rw [hji24] at A4)
   (try rw [hji24] at A6)
   have hji24w : (IntKind.i64.wrap (Int.tmod (IntKind.u64.wrap (a0)) 6)) = ji24 := (i64_w _).trans hji24
   by_cases c25 : 0 ≤ (ji24)
   ·rw [if_pos c25] at H
    have c25b0 : decide (0 ≤ (ji24)) = true := decide_eq_true c25
    clear c25
    by_cases c26 : (ji24) < (y249.length : Int)
    ·rw [if_pos c26] at H
     have c26b0 : decide ((ji24) < (y249.length : Int)) = true := decide_eq_true c26
     clear c26
     replace H := Option.bind_eq_some_iff.mp H
     obtain ⟨⟨t256, t257, t258, t259, t260, t261⟩, A270, H⟩ := H
     replace H : (if (ji24) < (y252.length : Int) then (some ((t256 == ((rd_T40 y249 (ji24)).f0) && (t257.toList == (((rd_T40 y249 (ji24)).f1).toList) && (t258 == ((rd_T40 y249 (ji24)).f2) && (t259.toList == (((rd_T40 y249 (ji24)).f3).toList) && (t260.toList == (((rd_T40 y249 (ji24)).f4).toList) && (t261 == ((rd_T40 y249 (ji24)).f5))))))) == (((Go.bits .and .i64 a1 255) % 256) != (rd y252 (ji24))))) else (none)) = some r := H
     have A27 := Aside0.mk A270
     clear A270
     by_cases c28 : (ji24) < (y252.length : Int)
     ·rw [if_pos c28] at H
      have c28b0 : decide ((ji24) < (y252.length : Int)) = true := decide_eq_true c28
      clear c28
      obtain rfl := Option.some.inj H
      go_enter Tryd.func7, Tryd.ntmps7
      try go_wp2_with (first | ((with_reducible refine gate_callee (f := 10) rfl ?_); refine goesL_ (some 12) rfl rfl Tryd.func10 (by kernel_rfl) rfl #[] rfl (by (try simp only [List.map_toArray, List.map_cons, List.map_nil]); first | done | rfl | (simp only [List.length_drop, List.length_take]; rfl)) ?_; (with_reducible refine (stolelaw5_awake.calls k  true _ (tabs_below HT.out (by repeat (first | (with_reducible first | exact HB.out | apply below_alloc | apply pw_below_drewN | apply below_drew1) | exact HB.out))) A4.out rfl).mono ?_); rintro e w29 ⟨rfl, hb⟩; refine ⟨_, rfl, ?_⟩; have n0_ := Aside0.mk (below_step (by repeat (first | (with_reducible first | exact HB.out | apply below_alloc | apply pw_below_drewN | apply below_drew1) | exact HB.out)) hb); clear HB; have HB := n0_; clear n0_; (try clear hb); (try clear hb2); (try clear hk); (try clear hi)) | ((with_reducible refine gate_callee (f := 13) rfl ?_); refine goesL_ (some 18) rfl rfl Tryd.func13 (by kernel_rfl) rfl #[.string a2, .int .u8 0] rfl (by (try simp only [List.map_toArray, List.map_cons, List.map_nil]); first | done | rfl | (simp only [List.length_drop, List.length_take]; rfl)) ?_; (with_reducible refine (stolelaw5_quiet.calls k a2 0 t233 _ A6.out).mono ?_); rintro e w' ⟨rfl, ⟨nd, rfl⟩⟩; refine ⟨_, rfl, ?_⟩) | ((with_reducible refine gate_dst (N := 32) rfl ?_); refine Kd.R_lit k40 _ 40 ?hg (N := 32) ?hd (xs := ([(⟨0, (⟨#[]⟩ : ByteArray), false, (⟨#[]⟩ : ByteArray), (⟨#[]⟩ : ByteArray), 0⟩ : S40), (⟨8, (⟨#[97]⟩ : ByteArray), false, t233, (⟨#[]⟩ : ByteArray), 0⟩ : S40), (⟨9, t233, true, (⟨#[]⟩ : ByteArray), (⟨#[]⟩ : ByteArray), 0⟩ : S40), (⟨15, (⟨#[]⟩ : ByteArray), false, (⟨#[]⟩ : ByteArray), (⟨#[]⟩ : ByteArray), 0⟩ : S40), (⟨18, (⟨#[]⟩ : ByteArray), false, (⟨#[]⟩ : ByteArray), (⟨#[]⟩ : ByteArray), 0⟩ : S40), (⟨19, (⟨#[]⟩ : ByteArray), false, (⟨#[]⟩ : ByteArray), (⟨#[116, 105, 116, 108, 101]⟩ : ByteArray), 0⟩ : S40)] : List (S40))) (inner := [.int .i64 0, .string (⟨#[]⟩ : ByteArray), .bool false, .string (⟨#[]⟩ : ByteArray), .string (⟨#[]⟩ : ByteArray), .int .i64 0, .int .i64 8, .string (⟨#[97]⟩ : ByteArray), .bool false, .string t233, .string (⟨#[]⟩ : ByteArray), .int .i64 0, .int .i64 9, .string t233, .bool true, .string (⟨#[]⟩ : ByteArray), .string (⟨#[]⟩ : ByteArray), .int .i64 0, .int .i64 15, .string (⟨#[]⟩ : ByteArray), .bool false, .string (⟨#[]⟩ : ByteArray), .string (⟨#[]⟩ : ByteArray), .int .i64 0, .int .i64 18, .string (⟨#[]⟩ : ByteArray), .bool false, .string (⟨#[]⟩ : ByteArray), .string (⟨#[]⟩ : ByteArray), .int .i64 0, .int .i64 19, .string (⟨#[]⟩ : ByteArray), .bool false, .string (⟨#[]⟩ : ByteArray), .string (⟨#[116, 105, 116, 108, 101]⟩ : ByteArray), .int .i64 0]) (ok := fun _ => True) (okp := fun _ => True) ?hr ?hp (fun _ hk => hk) trivial (Below.refl _ _) (Nat.le_refl _) (by simp) ?_; (case hd => rfl); (case hg => rfl); (case hr => first | (go_simp; done) | (go_simp; rfl)); (case hp => exact (Reps.c6 (show Kd.M k40 _ _ _ (⟨0, (⟨#[]⟩ : ByteArray), false, (⟨#[]⟩ : ByteArray), (⟨#[]⟩ : ByteArray), 0⟩ : S40) [.int .i64 0, .string (⟨#[]⟩ : ByteArray), .bool false, .string (⟨#[]⟩ : ByteArray), .string (⟨#[]⟩ : ByteArray), .int .i64 0] from (k40_mkM _ _ _ (⟨0, (⟨#[]⟩ : ByteArray), false, (⟨#[]⟩ : ByteArray), (⟨#[]⟩ : ByteArray), 0⟩ : S40) )) (Reps.c6 (show Kd.M k40 _ _ _ (⟨8, (⟨#[97]⟩ : ByteArray), false, t233, (⟨#[]⟩ : ByteArray), 0⟩ : S40) [.int .i64 8, .string (⟨#[97]⟩ : ByteArray), .bool false, .string t233, .string (⟨#[]⟩ : ByteArray), .int .i64 0] from (k40_mkM _ _ _ (⟨8, (⟨#[97]⟩ : ByteArray), false, t233, (⟨#[]⟩ : ByteArray), 0⟩ : S40) )) (Reps.c6 (show Kd.M k40 _ _ _ (⟨9, t233, true, (⟨#[]⟩ : ByteArray), (⟨#[]⟩ : ByteArray), 0⟩ : S40) [.int .i64 9, .string t233, .bool true, .string (⟨#[]⟩ : ByteArray), .string (⟨#[]⟩ : ByteArray), .int .i64 0] from (k40_mkM _ _ _ (⟨9, t233, true, (⟨#[]⟩ : ByteArray), (⟨#[]⟩ : ByteArray), 0⟩ : S40) )) (Reps.c6 (show Kd.M k40 _ _ _ (⟨15, (⟨#[]⟩ : ByteArray), false, (⟨#[]⟩ : ByteArray), (⟨#[]⟩ : ByteArray), 0⟩ : S40) [.int .i64 15, .string (⟨#[]⟩ : ByteArray), .bool false, .string (⟨#[]⟩ : ByteArray), .string (⟨#[]⟩ : ByteArray), .int .i64 0] from (k40_mkM _ _ _ (⟨15, (⟨#[]⟩ : ByteArray), false, (⟨#[]⟩ : ByteArray), (⟨#[]⟩ : ByteArray), 0⟩ : S40) )) (Reps.c6 (show Kd.M k40 _ _ _ (⟨18, (⟨#[]⟩ : ByteArray), false, (⟨#[]⟩ : ByteArray), (⟨#[]⟩ : ByteArray), 0⟩ : S40) [.int .i64 18, .string (⟨#[]⟩ : ByteArray), .bool false, .string (⟨#[]⟩ : ByteArray), .string (⟨#[]⟩ : ByteArray), .int .i64 0] from (k40_mkM _ _ _ (⟨18, (⟨#[]⟩ : ByteArray), false, (⟨#[]⟩ : ByteArray), (⟨#[]⟩ : ByteArray), 0⟩ : S40) )) (Reps.c6 (show Kd.M k40 _ _ _ (⟨19, (⟨#[]⟩ : ByteArray), false, (⟨#[]⟩ : ByteArray), (⟨#[116, 105, 116, 108, 101]⟩ : ByteArray), 0⟩ : S40) [.int .i64 19, .string (⟨#[]⟩ : ByteArray), .bool false, .string (⟨#[]⟩ : ByteArray), .string (⟨#[116, 105, 116, 108, 101]⟩ : ByteArray), .int .i64 0] from (k40_mkM _ _ _ (⟨19, (⟨#[]⟩ : ByteArray), false, (⟨#[]⟩ : ByteArray), (⟨#[116, 105, 116, 108, 101]⟩ : ByteArray), 0⟩ : S40) )) (Reps.none _ _)))))))); intro v250 w30 ho31 hb hg_ hnew_; clear hg_ hnew_; (first | rw [← Ny249.out] at ho31 | (simp only [Int.reduceToNat] at ho31; rw [← Ny249.out] at ho31)); have n0_ := Aside0.mk (Kd.R_lower ho31 (below_size (by repeat (first | (with_reducible first | exact HB.out | apply below_alloc | apply pw_below_drewN | apply below_drew1) | exact HB.out)))); have n1_ := Aside0.mk (below_step (by repeat (first | (with_reducible first | exact HB.out | apply below_alloc | apply pw_below_drewN | apply below_drew1) | exact HB.out)) hb); clear HB; have HO251 := n0_; have HB := n1_; clear n0_ n1_; clear hb ho31) | ((with_reducible refine gate_dst (N := 33) rfl ?_); refine Kd.R_lit (Kd.int .u8) _ 5 ?hg (N := 33) ?hd (xs := ([60, 34, 39, 45, 62, 60] : List Int)) (inner := [.int .u8 60, .int .u8 34, .int .u8 39, .int .u8 45, .int .u8 62, .int .u8 60]) (ok := fun _ => True) (okp := fun _ => True) ?hr ?hp (fun _ hk => hk) trivial (Below.refl _ _) (Nat.le_refl _) (by simp) ?_; (case hd => rfl); (case hg => rfl); (case hr => first | (go_simp; done) | (go_simp; rfl)); (case hp => exact (Reps.one (show Kd.M (Kd.int .u8) _ _ _ 60 [.int .u8 60] from rfl) (Reps.one (show Kd.M (Kd.int .u8) _ _ _ 34 [.int .u8 34] from rfl) (Reps.one (show Kd.M (Kd.int .u8) _ _ _ 39 [.int .u8 39] from rfl) (Reps.one (show Kd.M (Kd.int .u8) _ _ _ 45 [.int .u8 45] from rfl) (Reps.one (show Kd.M (Kd.int .u8) _ _ _ 62 [.int .u8 62] from rfl) (Reps.one (show Kd.M (Kd.int .u8) _ _ _ 60 [.int .u8 60] from rfl) (Reps.none _ _)))))))); intro v253 w32 ho33 hb hg_ hnew_; clear hg_ hnew_; (first | rw [← Ny252.out] at ho33 | (simp only [Int.reduceToNat] at ho33; rw [← Ny252.out] at ho33)); have n0_ := Aside0.mk (Kd.R_below (by (with_reducible repeat (first | apply Kd.R_alloc | apply Kd.R_drewN | apply Kd.R_drew)); exact HO251.out) hb); have n1_ := Aside0.mk (Kd.R_lower ho33 (below_size (by repeat (first | (with_reducible first | exact HB.out | apply below_alloc | apply pw_below_drewN | apply below_drew1) | exact HB.out)))); have n2_ := Aside0.mk (below_step (by repeat (first | (with_reducible first | exact HB.out | apply below_alloc | apply pw_below_drewN | apply below_drew1) | exact HB.out)) hb); clear HO251; clear HB; have HO251 := n0_; have HO254 := n1_; have HB := n2_; clear n0_ n1_ n2_; clear hb ho33))
      have n0_ := Aside0.mk (Kd.R_drew HO251.out)
      have n1_ := Aside0.mk (Kd.R_drew HO254.out)
      have n2_ := Aside0.mk (below_drew1 HB.out)
      clear HO251
      clear HO254
      clear HB
      have HO251 := n0_
      have HO254 := n1_
      have HB := n2_
      clear n0_ n1_ n2_
      obtain ⟨Ao35, co35, eo35⟩ := Kd.R_slice HO251.out
      (first | subst eo35 | (injection eo35 with f1_ f2_ f3_; have f4_ := f1_.symm; have f5_ := f3_.symm; clear f1_ f2_ f3_; subst f4_; subst f5_))
      have p255 : 0 ≤ ((ji24) : Int) := of_decide_eq_true (by first | (with_reducible assumption) | assumption)
      have q255 : (ji24) < (y249.length : Int) := of_decide_eq_true (by first | (with_reducible assumption) | assumption)
      obtain ⟨ad255, e255, hx255_0, hx255_1, hx255_2, hx255_3, hx255_4, hx255_5⟩ := at_T40 (Kd.R_reads' HO251.out).2.2 (ji24) p255 q255
      cases e255
      replace p255 := eq_true p255
      replace q255 := eq_true q255
      have p262 : 0 ≤ ((ji24) : Int) := of_decide_eq_true (by first | (with_reducible assumption) | assumption)
      have q262 : (ji24) < (y249.length : Int) := of_decide_eq_true (by first | (with_reducible assumption) | assumption)
      obtain ⟨ad262, e262, hx262_0, hx262_1, hx262_2, hx262_3, hx262_4, hx262_5⟩ := at_T40 (Kd.R_reads' HO251.out).2.2 (ji24) p262 q262
      obtain rfl : ad255 = ad262 := (by injection e262)
      replace p262 := eq_true p262
      replace q262 := eq_true q262
      obtain ⟨Ao36, co36, eo36⟩ := Kd.R_slice HO254.out
      (first | subst eo36 | (injection eo36 with f1_ f2_ f3_; have f4_ := f1_.symm; have f5_ := f3_.symm; clear f1_ f2_ f3_; subst f4_; subst f5_))
      have p263 : 0 ≤ ((ji24) : Int) := of_decide_eq_true (by first | (with_reducible assumption) | assumption)
      have q263 : (ji24) < (y252.length : Int) := of_decide_eq_true (by first | (with_reducible assumption) | assumption)
      obtain ⟨ad263, e263, hx263_0⟩ := Kd.at_int (Kd.R_reads' HO254.out).2.2 (ji24) p263 q263
      cases e263
      replace p263 := eq_true p263
      replace q263 := eq_true q263
      refine start_ (n := 19) (S := fun w' => w'.cell? (ad255.add (((ji24)).toNat * 6)) = some (.int .i64 ((rd_T40 y249 (ji24)).f0)) ∧ w'.cell? ⟨(ad255.add (((ji24)).toNat * 6)).block, (ad255.add (((ji24)).toNat * 6)).off + 1, none⟩ = some (.string ((rd_T40 y249 (ji24)).f1)) ∧ w'.cell? ⟨(ad255.add (((ji24)).toNat * 6)).block, (ad255.add (((ji24)).toNat * 6)).off + 2, none⟩ = some (.bool ((rd_T40 y249 (ji24)).f2)) ∧ w'.cell? ⟨(ad255.add (((ji24)).toNat * 6)).block, (ad255.add (((ji24)).toNat * 6)).off + 3, none⟩ = some (.string ((rd_T40 y249 (ji24)).f3)) ∧ w'.cell? ⟨(ad255.add (((ji24)).toNat * 6)).block, (ad255.add (((ji24)).toNat * 6)).off + 4, none⟩ = some (.string ((rd_T40 y249 (ji24)).f4)) ∧ w'.cell? ⟨(ad255.add (((ji24)).toNat * 6)).block, (ad255.add (((ji24)).toNat * 6)).off + 5, none⟩ = some (.int .i64 ((rd_T40 y249 (ji24)).f5)) ∧ w'.cell? (ad255.add (((ji24)).toNat * 6)) = some (.int .i64 ((rd_T40 y249 (ji24)).f0)) ∧ w'.cell? ⟨(ad255.add (((ji24)).toNat * 6)).block, (ad255.add (((ji24)).toNat * 6)).off + 1, none⟩ = some (.string ((rd_T40 y249 (ji24)).f1)) ∧ w'.cell? ⟨(ad255.add (((ji24)).toNat * 6)).block, (ad255.add (((ji24)).toNat * 6)).off + 2, none⟩ = some (.bool ((rd_T40 y249 (ji24)).f2)) ∧ w'.cell? ⟨(ad255.add (((ji24)).toNat * 6)).block, (ad255.add (((ji24)).toNat * 6)).off + 3, none⟩ = some (.string ((rd_T40 y249 (ji24)).f3)) ∧ w'.cell? ⟨(ad255.add (((ji24)).toNat * 6)).block, (ad255.add (((ji24)).toNat * 6)).off + 4, none⟩ = some (.string ((rd_T40 y249 (ji24)).f4)) ∧ w'.cell? ⟨(ad255.add (((ji24)).toNat * 6)).block, (ad255.add (((ji24)).toNat * 6)).off + 5, none⟩ = some (.int .i64 ((rd_T40 y249 (ji24)).f5)) ∧ w'.cell? (ad263.add ((ji24)).toNat) = some (.int .u8 (rd y252 (ji24)))) (ds := []) #[F,F,F,F,F,F,F,F,F,F,F,F,F,F,F,F,F,F,F] (by kernel_rfl) rfl rfl ⟨hx255_0, hx255_1, hx255_2, hx255_3, hx255_4, hx255_5, hx262_0, hx262_1, hx262_2, hx262_3, hx262_4, hx262_5, hx263_0⟩ (fun hHeld => ?_); refine with_tabW stolelaw5_StepStays.tab10 stolelaw5_StepStays.bits10 (fun HT_ HW_ => ?_)
      generalize w32.drew = w34 at HO251 HO254 HB hx255_0 hx255_1 hx255_2 hx255_3 hx255_4 hx255_5 hx262_0 hx262_1 hx262_2 hx262_3 hx262_4 hx262_5 hx263_0 hHeld ⊢
      refine pS 0 38 #[T,F,F,F,F,F,F,F,F,F,F,F,F,F,F,F,F,F,F] ?_ (hc := any_of HT_.out (by kernel_rfl))
      refine pS 1 39 #[T,T,F,F,F,F,F,F,F,F,F,F,F,F,F,F,F,F,F] ?_ (hc := any_of HT_.out (by kernel_rfl))
      refine pS 2 40 #[T,T,T,F,F,F,F,F,F,F,F,F,F,F,F,F,F,F,F] ?_ (hc := any_of HT_.out (by kernel_rfl))
      refine pS 4 42 #[T,T,T,F,T,F,F,F,F,F,F,F,F,F,F,F,F,F,F] ?_ (hc := any_of HT_.out (by kernel_rfl))
      refine pS 6 44 #[T,T,T,F,T,F,T,F,F,F,F,F,F,F,F,F,F,F,F] ?_ (hc := any_of HT_.out (by kernel_rfl))
      refine pS 7 45 #[T,T,T,F,T,F,T,T,F,F,F,F,F,F,F,F,F,F,F] ?_ (hc := any_of HT_.out (by kernel_rfl))
      refine pS 8 46 #[T,T,T,F,T,F,T,T,T,F,F,F,F,F,F,F,F,F,F] ?_ (hc := any_of HT_.out (by kernel_rfl))
      refine pS 11 49 #[T,T,T,F,T,F,T,T,T,F,F,T,F,F,F,F,F,F,F] ?_ (hc := any_of HT_.out (by kernel_rfl))
      refine pS 12 50 #[T,T,T,F,T,F,T,T,T,F,F,T,T,F,F,F,F,F,F] ?_ (hc := any_of HT_.out (by kernel_rfl))
      refine pS 13 51 #[T,T,T,F,T,F,T,T,T,F,F,T,T,T,F,F,F,F,F] ?_ (hc := any_of HT_.out (by kernel_rfl))
      refine pS 14 52 #[T,T,T,F,T,F,T,T,T,F,F,T,T,T,T,F,F,F,F] ?_ (hc := any_of HT_.out (by kernel_rfl))
      refine take_ (i := 3) (N := some 41) (v := ?_) (a' := ?_) #[T,T,T,T,T,F,T,T,T,F,F,T,T,T,T,F,F,F,F] rfl rfl (take_ofW HT_.out HW_.out (by kernel_rfl)) (fun _ _ _ h => h) (Or.inl ⟨by rfl, ?_⟩) hHeld ?_ ?_
      rotate_left
      ·rintro w' ⟨s0, s1, s2, s3, s4, s5, s6, s7, s8, s9, s10, s11, s12⟩
       go_simp
       with_reducible rfl
      rotate_left
      ·simp only [Act.put, zA, zZ, zS, i64_w, i32_w]
       rfl
      refine take_ (i := 9) (N := some 47) (v := ?_) (a' := ?_) #[T,T,T,T,T,F,T,T,T,T,F,T,T,T,T,F,F,F,F] rfl rfl (take_ofW HT_.out HW_.out (by kernel_rfl)) (fun _ _ _ h => h) (Or.inl ⟨by rfl, ?_⟩) hHeld ?_ ?_
      rotate_left
      ·rintro w' ⟨s0, s1, s2, s3, s4, s5, s6, s7, s8, s9, s10, s11, s12⟩
       go_simp
       with_reducible rfl
      rotate_left
      ·simp only [Act.put, zA, zZ, zS, i64_w, i32_w]
       rfl
      refine take_ (i := 15) (N := some 53) (v := ?_) (a' := ?_) #[T,T,T,T,T,F,T,T,T,T,F,T,T,T,T,T,F,F,F] rfl rfl (take_ofW HT_.out HW_.out (by kernel_rfl)) (fun _ _ _ h => h) (Or.inl ⟨by rfl, ?_⟩) hHeld ?_ ?_
      rotate_left
      ·rintro w' ⟨s0, s1, s2, s3, s4, s5, s6, s7, s8, s9, s10, s11, s12⟩
       go_simp
       with_reducible rfl
      rotate_left
      ·simp only [Act.put, zA, zZ, zS, i64_w, i32_w]
       rfl
      refine pS 16 54 #[T,T,T,T,T,F,T,T,T,T,F,T,T,T,T,T,T,F,F] ?_ (hc := any_of HT_.out (by kernel_rfl))
      refine one_ (i := 5) (N := some 43) #[T,T,T,T,T,T,T,T,T,T,F,T,T,T,T,T,T,F,F] rfl rfl (one_of HT_.out (by kernel_rfl)) (by decide) (fun K hK => ?_)
      refine goes_ Tryd.func15 (by kernel_rfl) rfl #[.agg #[.int .i64 ((rd_T40 y249 (ji24)).f0), .string ((rd_T40 y249 (ji24)).f1), .bool ((rd_T40 y249 (ji24)).f2), .string ((rd_T40 y249 (ji24)).f3), .string ((rd_T40 y249 (ji24)).f4), .int .i64 ((rd_T40 y249 (ji24)).f5)], .int .u8 ((Go.bits .and .i64 a1 255) % 256)] (by rfl) rfl rfl (by (try simp only [List.map_toArray, List.map_cons, List.map_nil]); first | done | (simp only [hji24]; rfl) | rfl | (simp only [List.length_drop, List.length_take]; rfl)) ?_
      with_reducible refine (tok_Step.calls ((rd_T40 y249 (ji24)).f0) ((rd_T40 y249 (ji24)).f1) ((rd_T40 y249 (ji24)).f2) ((rd_T40 y249 (ji24)).f3) ((rd_T40 y249 (ji24)).f4) ((rd_T40 y249 (ji24)).f5) ((Go.bits .and .i64 a1 255) % 256) t256 t257 t258 t259 t260 t261 _ A27.out).mono ?_
      rintro e w37 ⟨rfl, hb⟩
      have HS0_ := (hb.cell (World.block_lt_of_cell? _ _ (hHeld.1))).trans (hHeld.1)
      have HS1_ := (hb.cell (World.block_lt_of_cell? _ _ (hHeld.2.1))).trans (hHeld.2.1)
      have HS2_ := (hb.cell (World.block_lt_of_cell? _ _ (hHeld.2.2.1))).trans (hHeld.2.2.1)
      have HS3_ := (hb.cell (World.block_lt_of_cell? _ _ (hHeld.2.2.2.1))).trans (hHeld.2.2.2.1)
      have HS4_ := (hb.cell (World.block_lt_of_cell? _ _ (hHeld.2.2.2.2.1))).trans (hHeld.2.2.2.2.1)
      have HS5_ := (hb.cell (World.block_lt_of_cell? _ _ (hHeld.2.2.2.2.2.1))).trans (hHeld.2.2.2.2.2.1)
      have HS6_ := (hb.cell (World.block_lt_of_cell? _ _ (hHeld.2.2.2.2.2.2.1))).trans (hHeld.2.2.2.2.2.2.1)
      have HS7_ := (hb.cell (World.block_lt_of_cell? _ _ (hHeld.2.2.2.2.2.2.2.1))).trans (hHeld.2.2.2.2.2.2.2.1)
      have HS8_ := (hb.cell (World.block_lt_of_cell? _ _ (hHeld.2.2.2.2.2.2.2.2.1))).trans (hHeld.2.2.2.2.2.2.2.2.1)
      have HS9_ := (hb.cell (World.block_lt_of_cell? _ _ (hHeld.2.2.2.2.2.2.2.2.2.1))).trans (hHeld.2.2.2.2.2.2.2.2.2.1)
      have HS10_ := (hb.cell (World.block_lt_of_cell? _ _ (hHeld.2.2.2.2.2.2.2.2.2.2.1))).trans (hHeld.2.2.2.2.2.2.2.2.2.2.1)
      have HS11_ := (hb.cell (World.block_lt_of_cell? _ _ (hHeld.2.2.2.2.2.2.2.2.2.2.2.1))).trans (hHeld.2.2.2.2.2.2.2.2.2.2.2.1)
      have HS12_ := (hb.cell (World.block_lt_of_cell? _ _ (hHeld.2.2.2.2.2.2.2.2.2.2.2.2))).trans (hHeld.2.2.2.2.2.2.2.2.2.2.2.2)
      refine ⟨_, rfl, ?_⟩
      have n0_ := Aside0.mk (Kd.R_below (by (with_reducible repeat (first | apply Kd.R_alloc | apply Kd.R_drewN | apply Kd.R_drew)); exact HO251.out) hb)
      have n1_ := Aside0.mk (Kd.R_below (by (with_reducible repeat (first | apply Kd.R_alloc | apply Kd.R_drewN | apply Kd.R_drew)); exact HO254.out) hb)
      have n2_ := Aside0.mk (below_step (by repeat (first | (with_reducible first | exact HB.out | apply below_alloc | apply pw_below_drewN | apply below_drew1) | exact HB.out)) hb)
      clear HO251
      clear HO254
      clear HB
      have HO251 := n0_
      have HO254 := n1_
      have HB := n2_
      clear n0_ n1_ n2_
      (try clear hb)
      (try clear hb2)
      (try clear hk)
      (try clear hi)
      refine hK.out _ _ ⟨HS0_, HS1_, HS2_, HS3_, HS4_, HS5_, HS6_, HS7_, HS8_, HS9_, HS10_, HS11_, HS12_⟩ (fun hHeld => ?_)
      clear hK K
      refine norm_ (a' := ?_) ?_ ?_
      rotate_left
      ·show Act.put _ (some 43) _ = _
       simp only [Act.put, zA, zZ, zS, i64_w, i32_w]
       rfl
      refine pS 10 48 #[T,T,T,T,T,T,T,T,T,T,T,T,T,T,T,T,T,F,F] ?_ (hc := any_of HT_.out (by kernel_rfl))
      refine pS 17 55 #[T,T,T,T,T,T,T,T,T,T,T,T,T,T,T,T,T,T,F] ?_ (hc := any_of HT_.out (by kernel_rfl))
      refine pS 18 6 #[T,T,T,T,T,T,T,T,T,T,T,T,T,T,T,T,T,T,T] ?_ (hc := any_of HT_.out (by kernel_rfl))
      refine done_ (done_of HT_.out (by kernel_rfl)) ?_
      try go_wp2
      go_ret
      exact ⟨by first | rfl | (simp [errW_none, errW_some] <;> rfl) | (simp only [← hji24]; first | rfl | (simp [errW_none, errW_some] <;> rfl)) | (simp [*, errW_none, errW_some] <;> rfl), by repeat (first | (with_reducible first | exact HB.out | apply below_alloc | apply pw_below_drewN | apply below_drew1) | exact HB.out)⟩
     ·rw [if_neg c28] at H
      exact absurd H (by simp)
    ·rw [if_neg c26] at H
     exact absurd H (by simp)
   ·rw [if_neg c25] at H
    exact absurd H (by simp)
 ·replace c5 := Bool.eq_false_iff.mpr c5
  subst c5
  have H1 : (some false) = some r := by rw [if_neg (show ¬ (false = true) by decide)] at H; exact H
  clear H
  have H := H1
  clear H1
  obtain rfl := Option.some.inj H
  exact absurd hr (by simp)
def stolelaw5_StepStays.Pure : Prop := ∀ (a0 : Int) (a1 : Int) (a2 : ByteArray), (Lit.int .i64 a0).wf = true → (Lit.int .i64 a1).wf = true → a2.size ≤ 140737488351232 → ∃ k, stolelaw5_StepStays.f k a0 a1 a2 = some true
theorem stolelaw5_StepStays.walk (P : stolelaw5_StepStays.Pure) (a0 : Int) (a1 : Int) (a2 : ByteArray) (w : World) (hT : Tabs w) (w0 : (Lit.int .i64 a0).wf = true) (w1 : (Lit.int .i64 a1).wf = true) (w2 : a2.size ≤ 140737488351232) :
  Calls Tryd.prog 7 #[.int .i64 a0, .int .i64 a1, .string a2] w fun e w' => e = .returned (.bool true) ∧ Below w.heap.size w w' := by
 obtain ⟨k, h⟩ := P a0 a1 a2 w0 w1 w2
 refine (stolelaw5_StepStays.calls k a0 a1 a2 true w hT h rfl).mono ?_
 rintro e w' ⟨rfl, hd⟩
 exact ⟨rfl, hd⟩
-- GIVEN BY HAND: function 16 (stoleref0_Decimal)
end Go.Proofs.YtgbaakopneldaaaDoor.XL
end
section
namespace Go.Proofs.YtgbaakopneldaaaDoor.P5
open Go.RowKit Go.Proofs.YtgbaakopneldaaaDoor.XK Go.Proofs.YtgbaakopneldaaaDoor.XL Go.Proofs.YtgbaakopneldaaaDoor.Tk Go.Proofs.YtgbaakopneldaaaDoor.ExtM Go.Proofs.YtgbaakopneldaaaDoor.Base Go.Proofs.YtgbaakopneldaaaDoorW.PrintWords Go.Proofs.YtgbaakopneldaaaDoorW.PrintLast Go.Proofs.YtgbaakopneldaaaDoorW.PrintMore
set_option linter.unusedVariables false
set_option linter.unusedSimpArgs false
set_option maxRecDepth 100000
theorem stay_eq (s : St) (b o : Nat) (h1 : b ≠ o → stepS s b = s) (h2 : b = o → (stepS s b).pos ≠ s.pos) :
    (((six (stepS s b)).1 == s.pos && ((six (stepS s b)).2.1.toList == s.name.toList && ((six (stepS s b)).2.2.1 == s.fin && ((six (stepS s b)).2.2.2.1.toList == s.attr.toList && ((six (stepS s b)).2.2.2.2.1.toList == s.held.toList && ((six (stepS s b)).2.2.2.2.2 == s.read)))))) == (((b : Nat) : Int) != ((o : Nat) : Int))) = true := by
  by_cases h : b = o
  · have e1 : ((six (stepS s b)).1 == s.pos) = false := beq_eq_false_iff_ne.2 (h2 h)
    have e2 : (((b : Nat) : Int) != ((o : Nat) : Int)) = false := by rw [h]; simp
    rw [e1, e2]; rfl
  · have e2 : (((b : Nat) : Int) != ((o : Nat) : Int)) = true := bne_iff_ne.2 (by omega)
    rw [e2, h1 h]
    simp [six]
theorem step_f (s : St) (b : Nat) (hb : b < 256) (h0 : 0 ≤ s.pos) (h1 : s.pos ≤ 22) (hh : s.held.size ≤ 4611686018427387904) : tok_Step.f s.pos s.name s.fin s.attr s.held s.read (b : Int) = some (six (stepS s b)) := by
  unfold tok_Step.f
  rw [if_pos ⟨h0, h1, hh, by omega, by omega⟩, Int.toNat_natCast]
theorem stays8 (K : ByteArray) (b : Nat) : (b ≠ 34 → stepS ⟨8, ⟨#[97]⟩, false, K, ⟨#[]⟩, 0⟩ b = ⟨8, ⟨#[97]⟩, false, K, ⟨#[]⟩, 0⟩) ∧ (b = 34 → (stepS ⟨8, ⟨#[97]⟩, false, K, ⟨#[]⟩, 0⟩ b).pos ≠ (⟨8, ⟨#[97]⟩, false, K, ⟨#[]⟩, 0⟩ : St).pos) := by
  refine ⟨fun h => ?_, fun h => ?_⟩
  · rw [stepS_8 _ rfl]; unfold quotedS; rw [if_neg h]; rfl
  · rw [stepS_8 _ rfl]; unfold quotedS; rw [if_pos h]; simp [inS]
theorem stays9 (K : ByteArray) (b : Nat) : (b ≠ 39 → stepS ⟨9, K, true, ⟨#[]⟩, ⟨#[]⟩, 0⟩ b = ⟨9, K, true, ⟨#[]⟩, ⟨#[]⟩, 0⟩) ∧ (b = 39 → (stepS ⟨9, K, true, ⟨#[]⟩, ⟨#[]⟩, 0⟩ b).pos ≠ (⟨9, K, true, ⟨#[]⟩, ⟨#[]⟩, 0⟩ : St).pos) := by
  refine ⟨fun h => ?_, fun h => ?_⟩
  · rw [stepS_9 _ rfl]; unfold quotedS; rw [if_neg h]; rfl
  · rw [stepS_9 _ rfl]; unfold quotedS; rw [if_pos h]; simp [inS]
theorem stays0 (b : Nat) : (b ≠ 60 → stepS (atS 0) b = atS 0) ∧ (b = 60 → (stepS (atS 0) b).pos ≠ (atS 0).pos) := by
  refine ⟨fun h => ?_, fun h => ?_⟩
  · rw [stepS_0 _ rfl]; unfold dataS; rw [if_neg h]
  · rw [stepS_0 _ rfl]; unfold dataS; rw [if_pos h]; decide
theorem stays15 (b : Nat) : (b ≠ 45 → stepS (atS 15) b = atS 15) ∧ (b = 45 → (stepS (atS 15) b).pos ≠ (atS 15).pos) := by
  refine ⟨fun h => ?_, fun h => ?_⟩
  · rw [stepS_15 _ rfl]; unfold commentS; rw [if_neg h]; rfl
  · rw [stepS_15 _ rfl]; unfold commentS; rw [if_pos h]; decide
theorem stays18 (b : Nat) : (b ≠ 62 → stepS (atS 18) b = atS 18) ∧ (b = 62 → (stepS (atS 18) b).pos ≠ (atS 18).pos) := by
  refine ⟨fun h => ?_, fun h => ?_⟩
  · rw [stepS_18 _ rfl]; unfold bogusS; rw [if_neg h]; rfl
  · rw [stepS_18 _ rfl]; unfold bogusS; rw [if_pos h]; decide
theorem stays19 (h : ByteArray) (b : Nat) : (b ≠ 60 → stepS (heldSt h) b = heldSt h) ∧ (b = 60 → (stepS (heldSt h) b).pos ≠ (heldSt h).pos) := by
  refine ⟨fun e => ?_, fun e => ?_⟩
  · rw [stepS_19 _ rfl]; unfold holdsS; rw [if_neg e]; rfl
  · rw [stepS_19 _ rfl]; unfold holdsS; rw [if_pos e]; simp [heldS, heldSt]
theorem stepStays_plain (a0 a1 : Int) (a2 : ByteArray) (w0 : (Lit.int IntKind.i64 a0).wf = true) (w1 : (Lit.int IntKind.i64 a1).wf = true) (h2 : a2.size ≤ 140737488351232) : ∃ k, stolelaw5_StepStays.f k a0 a1 a2 = some true := by
  refine Ev.rounds ?_
  refine Ev.congr (f := fun k => _) (fun k => by rw [stolelaw5_StepStays.f]) ?_
  refine Ev.bind awake_ev ?_
  refine Ev.pos rfl ?_
  obtain ⟨q, hq, hQ⟩ := quiet_ev a2 0 h2
  refine Ev.bind hq ?_
  obtain ⟨b, hb⟩ : ∃ b : Nat, (Go.bits .and .i64 a1 255) % 256 = (b : Int) := ⟨((Go.bits .and .i64 a1 255) % 256).toNat, by omega⟩
  have hb2 : b < 256 := by omega
  obtain ⟨i, hi⟩ : ∃ i : Nat, wrap64 (Int.tmod (IntKind.u64.wrap a0) 6) = (i : Int) ∧ i < 6 := by
    have hu : 0 ≤ IntKind.u64.wrap a0 := by rw [IntKind.wrap_u64]; omega
    have h3 := Int.tmod_nonneg 6 hu
    have h4 := Int.tmod_lt_of_pos (IntKind.u64.wrap a0) (show (0 : Int) < 6 by decide)
    refine ⟨(Int.tmod (IntKind.u64.wrap a0) 6).toNat, ?_, by omega⟩
    unfold wrap64; omega
  obtain ⟨hi, hi6⟩ := hi
  rw [hi, hb]
  by_cases h9 : (q.size : Int) > 9
  · refine Ev.pos h9 (Ev.pos (by decide) (Ev.pos (by omega) ?_))
    refine Ev.bindC rfl (Ev.bindC rfl ?_)
    obtain rfl | rfl | rfl | rfl | rfl | rfl : i = 0 ∨ i = 1 ∨ i = 2 ∨ i = 3 ∨ i = 4 ∨ i = 5 := by omega
    · refine Ev.pos (by decide) (Ev.pos (by show (0 : Int) < 6; decide) (Ev.bindC (step_f (atS 0) b hb2 (by decide) (by decide) (by decide)) (Ev.pos (by decide) (Ev.cast (Ev.now _) (stay_eq (atS 0) b 60 (stays0 b).1 (stays0 b).2)))))
    · refine Ev.pos (by decide) (Ev.pos (by show (1 : Int) < 6; decide) (Ev.bindC (step_f ⟨8, ⟨#[97]⟩, false, _, ⟨#[]⟩, 0⟩ b hb2 (show (0 : Int) ≤ 8 by decide) (show (8 : Int) ≤ 22 by decide) (Nat.zero_le _)) (Ev.pos (by decide) (Ev.cast (Ev.now _) (stay_eq ⟨8, ⟨#[97]⟩, false, _, ⟨#[]⟩, 0⟩ b 34 (stays8 _ b).1 (stays8 _ b).2)))))
    · refine Ev.pos (by decide) (Ev.pos (by show (2 : Int) < 6; decide) (Ev.bindC (step_f ⟨9, _, true, ⟨#[]⟩, ⟨#[]⟩, 0⟩ b hb2 (show (0 : Int) ≤ 9 by decide) (show (9 : Int) ≤ 22 by decide) (Nat.zero_le _)) (Ev.pos (by decide) (Ev.cast (Ev.now _) (stay_eq ⟨9, _, true, ⟨#[]⟩, ⟨#[]⟩, 0⟩ b 39 (stays9 _ b).1 (stays9 _ b).2)))))
    · refine Ev.pos (by decide) (Ev.pos (by show (3 : Int) < 6; decide) (Ev.bindC (step_f (atS 15) b hb2 (by decide) (by decide) (by decide)) (Ev.pos (by decide) (Ev.cast (Ev.now _) (stay_eq (atS 15) b 45 (stays15 b).1 (stays15 b).2)))))
    · refine Ev.pos (by decide) (Ev.pos (by show (4 : Int) < 6; decide) (Ev.bindC (step_f (atS 18) b hb2 (by decide) (by decide) (by decide)) (Ev.pos (by decide) (Ev.cast (Ev.now _) (stay_eq (atS 18) b 62 (stays18 b).1 (stays18 b).2)))))
    · refine Ev.pos (by decide) (Ev.pos (by show (5 : Int) < 6; decide) (Ev.bindC (step_f (heldSt ⟨#[116, 105, 116, 108, 101]⟩) b hb2 (by decide) (by decide) (by decide)) (Ev.pos (by decide) (Ev.cast (Ev.now _) (stay_eq (heldSt ⟨#[116, 105, 116, 108, 101]⟩) b 60 (stays19 _ b).1 (stays19 _ b).2)))))
  · refine Ev.neg h9 ?_
    refine Ev.bindC rfl (Ev.bindC rfl ?_)
    obtain rfl | rfl | rfl | rfl | rfl | rfl : i = 0 ∨ i = 1 ∨ i = 2 ∨ i = 3 ∨ i = 4 ∨ i = 5 := by omega
    · refine Ev.pos (by decide) (Ev.pos (by show (0 : Int) < 6; decide) (Ev.bindC (step_f (atS 0) b hb2 (by decide) (by decide) (by decide)) (Ev.pos (by decide) (Ev.cast (Ev.now _) (stay_eq (atS 0) b 60 (stays0 b).1 (stays0 b).2)))))
    · refine Ev.pos (by decide) (Ev.pos (by show (1 : Int) < 6; decide) (Ev.bindC (step_f ⟨8, ⟨#[97]⟩, false, _, ⟨#[]⟩, 0⟩ b hb2 (show (0 : Int) ≤ 8 by decide) (show (8 : Int) ≤ 22 by decide) (Nat.zero_le _)) (Ev.pos (by decide) (Ev.cast (Ev.now _) (stay_eq ⟨8, ⟨#[97]⟩, false, _, ⟨#[]⟩, 0⟩ b 34 (stays8 _ b).1 (stays8 _ b).2)))))
    · refine Ev.pos (by decide) (Ev.pos (by show (2 : Int) < 6; decide) (Ev.bindC (step_f ⟨9, _, true, ⟨#[]⟩, ⟨#[]⟩, 0⟩ b hb2 (show (0 : Int) ≤ 9 by decide) (show (9 : Int) ≤ 22 by decide) (Nat.zero_le _)) (Ev.pos (by decide) (Ev.cast (Ev.now _) (stay_eq ⟨9, _, true, ⟨#[]⟩, ⟨#[]⟩, 0⟩ b 39 (stays9 _ b).1 (stays9 _ b).2)))))
    · refine Ev.pos (by decide) (Ev.pos (by show (3 : Int) < 6; decide) (Ev.bindC (step_f (atS 15) b hb2 (by decide) (by decide) (by decide)) (Ev.pos (by decide) (Ev.cast (Ev.now _) (stay_eq (atS 15) b 45 (stays15 b).1 (stays15 b).2)))))
    · refine Ev.pos (by decide) (Ev.pos (by show (4 : Int) < 6; decide) (Ev.bindC (step_f (atS 18) b hb2 (by decide) (by decide) (by decide)) (Ev.pos (by decide) (Ev.cast (Ev.now _) (stay_eq (atS 18) b 62 (stays18 b).1 (stays18 b).2)))))
    · refine Ev.pos (by decide) (Ev.pos (by show (5 : Int) < 6; decide) (Ev.bindC (step_f (heldSt ⟨#[116, 105, 116, 108, 101]⟩) b hb2 (by decide) (by decide) (by decide)) (Ev.pos (by decide) (Ev.cast (Ev.now _) (stay_eq (heldSt ⟨#[116, 105, 116, 108, 101]⟩) b 60 (stays19 _ b).1 (stays19 _ b).2)))))
end Go.Proofs.YtgbaakopneldaaaDoor.P5
end
section
namespace Go.Proofs.YtgbaakopneldaaaDoor.RowStepStays
open Go.ChangeShapes Go.WideShapes Go.ChangeAt Go.RowKit Go.Proofs.YtgbaakopneldaaaDoorW.PrintWords Go.Proofs.YtgbaakopneldaaaDoorW.PrintLast Go.Proofs.YtgbaakopneldaaaDoor.ExtM
open Go.ChangeMaps (open_string shut_string)
set_option linter.unusedVariables false
theorem own : ownKnob Tryd.prog.godebug = none := by kernel_rfl
set_option maxRecDepth 100000 in
set_option maxHeartbeats 4000000 in
theorem contract (H : Type) (enc : TypeId × Value → H) (W : World) (base : Nat) (args : Array Value) (ds gs : List (DataW H)) (before : List MemPlace)
    (hval0 : ∀ (j : Nat) t v, Tryd.f7.params[j]? = some t → args[j]? = some v → Value.okWide Tryd.prog W .any base t v)
    (hW : DataW.Whole enc Tryd.prog Tryd.f7.params.toList Rows.stepStaysSpec.vars false W args.toList ds gs before)
    (hsz0 : (DataW.weightsEach Tryd.prog (Tryd.f7.params.toList ++ Rows.stepStaysSpec.plain.varTypes Tryd.prog) (ds ++ gs)).all (· ≤ reachBytes) = true)
    (hL : laidMetH Tryd.prog Rows.stepStaysRow.laid W)
    (hsh : W.ShapedOpen Tryd.prog)
    : Calls Tryd.prog 7 args W fun e W' => ∃ v, e = .returned v ∧ Rows.stepStaysSpec.post enc Tryd.prog Tryd.f7 false true false false W args v W' := by
  have hsz : (DataW.weightsEach Tryd.prog (Tryd.f7.params.toList ++ Rows.stepStaysSpec.plain.varTypes Tryd.prog) (ds ++ gs)).all (· ≤ reachBytes) = true := hsz0
  have hval : ∀ (j : Nat) t v, Tryd.f7.params[j]? = some t → args[j]? = some v → Value.okWide Tryd.prog W .any base t v := hval0
  have hW' := hW
  obtain ⟨p, q, hA0, hV, rfl, hfz, hnd⟩ := hW
  have hA : DataW.TrodAll enc Tryd.prog W 0 (fun _ => true) true Tryd.f7.params.toList args.toList ds p := hA0
  rw [Tryd.params7] at hA hval hsz
  obtain ⟨v0, vs0, d0, ds0, p0, q0, hargs, rfl, rfl, h0, r0⟩ := trodAll_cons hA
  obtain ⟨v1, vs1, d1, ds1, p1, q1, rfl, rfl, rfl, h1, r1⟩ := trodAll_cons r0
  obtain ⟨v2, vs2, d2, ds2, p2, q2, rfl, rfl, rfl, h2, r2⟩ := trodAll_cons r1
  obtain ⟨rfl, rfl, rfl⟩ := trodAll_nil r2
  obtain rfl : args = #[v0, v1, v2] := by cases args; simp_all
  obtain ⟨rfl, rfl⟩ := trodVars_none hV
  obtain ⟨a0, rfl, rfl, rfl, w0⟩ := open_int Tryd.underlying3 (hval 0 3 v0 rfl rfl) h0
  obtain ⟨a1, rfl, rfl, rfl, w1⟩ := open_int Tryd.underlying3 (hval 1 3 v1 rfl rfl) h1
  obtain ⟨a2, rfl, rfl, rfl, y2⟩ := open_string Tryd.underlying9 (hval 2 9 v2 rfl rfl) h2
  have w2 : a2.size ≤ 140737488351232 := by
    have z := sized_string hsz (j := 2) (t := 9) rfl rfl
    rw [Array.length_toList] at z
    exact z
  clear hA0 hval0 hsz0 hsz hval
  have hT : Tabs W := Tryd.laysM143.s1_3 W hsh
  obtain ⟨k, hk⟩ := P5.stepStays_plain a0 a1 a2 w0 w1 w2
  refine (XL.stolelaw5_StepStays.calls k a0 a1 a2 true W hT hk rfl).mono fun e W' ⟨he, bel0⟩ => ?_
  have bel : Below W.heap.size W W' := bel0
  subst he
  simp only [List.append_nil] at hW'
  exact ⟨_, rfl, _, _, _, [], _, [], hW', trodAll_mk1 (shut_bool Tryd.underlying4 _), (trodAll_cons_mk (shut_int Tryd.underlying3 w0) (trodAll_cons_mk (shut_int Tryd.underlying3 w1) (trodAll_cons_mk (shut_string Tryd.underlying9 y2) trodAll_mk0))), rfl, bel.frame _, fun h => by cases h⟩
theorem laid_met (os : Os) : laidMetH Tryd.prog Rows.stepStaysRow.laid ((World.laidAll Tryd.prog os Rows.stepStaysRow.laid).forCall (fun _ _ => 0) ⟨#[], #[.int .i64 0, .int .i64 0, .string ByteArray.empty], []⟩).memory := by
  rw [MakeChecks.laidMetH_plain _ _ _ (by kernel_rfl)]
  exact laidMet_laidAll _ (by kernel_rfl) (by kernel_rfl)
theorem reads (os : Os) {H : Type} (enc : TypeId × Value → H) : ∃ places, DataW.whole enc Tryd.prog ((World.laidAll Tryd.prog os Rows.stepStaysRow.laid).forCall (fun _ _ => 0) ⟨#[], #[.int .i64 0, .int .i64 0, .string ByteArray.empty], []⟩).memory Tryd.f7.params.toList Rows.stepStaysSpec.vars false (#[.int .i64 0, .int .i64 0, .string ByteArray.empty] : Array Value).toList 8 = some ([.lit (.int .i64 0), .lit (.int .i64 0), .lit (.string [])], [], places) :=
  ⟨[], by kernel_rfl⟩
set_option maxRecDepth 100000 in
theorem lifted (os : Os) (started : os.Started) (H : Type) (enc : TypeId × Value → H) (F : Stop.Interp) :
    ReturnsInHanded {} Tryd.checked os 7 .any ((OpenSpec.ofChange Rows.stepStaysSpec).preRow enc Tryd.prog Tryd.f7 Rows.stepStaysRow.domain false Rows.stepStaysRow.laid) (((OpenSpec.ofChange Rows.stepStaysSpec).at F).post enc Tryd.prog Tryd.f7 false true false false) := by
  obtain ⟨places, hx⟩ := reads os enc
  refine returnsInHanded_of_row (C := Tryd.checked) (s := (OpenSpec.ofChange Rows.stepStaysSpec)) own started (by kernel_rfl) Tryd.func7
    (witness_row_at (enc := enc) (C := Tryd.checked) false (World.laidAll Tryd.prog os Rows.stepStaysRow.laid) #[.int .i64 0, .int .i64 0, .string ByteArray.empty] (World.laidAll_os _ _ _) (by kernel_rfl) (by kernel_rfl) (by kernel_rfl)
      (OpenSpec.preRow_of_cond 8 hx (by kernel_rfl) (fun k hk => by cases hk) (by kernel_rfl) (laid_met os))) ?_
  intro W base args ds gs before hval hW hcnd hcond hsz hL hsh _
  exact contract H enc W base args ds gs before hval hW hsz hL hsh
theorem said : Rows.StepStaysSaid :=
  OpenClaim.holds_of_cond 7 Tryd.f7 rfl rfl rfl rfl rfl rfl rfl ⟨rfl, rfl, rfl, rfl, rfl⟩ rfl rfl rfl rfl rfl (by kernel_rfl) Tryd.func7 (by kernel_rfl)
    (of_decide_eq_true (by kernel_rfl)) (by unfold Func.isWrapper; first | (rw [if_pos (by decide +kernel)]; kernel_rfl) | (rw [if_neg (by decide +kernel)]; exact ⟨rfl, rfl⟩))
    (fun os started H enc _ F => by rw [OpenClaim.pre_eq_preRow]; exact lifted os started H enc F)
theorem plain (f : FuncId) (fn : Func) (hf : Tryd.pinned.checked.prog.funcNamed "stole/stolelaw5.StepStays" = some f) (hfn : Tryd.pinned.checked.prog.funcs[f]? = some fn) :
    false = Tryd.pinned.checked.prog.looks [] ∧ ∀ (j : Nat) t, fn.params[j]? = some t → Tryd.pinned.checked.prog.wantsStandIn t = false := by
  obtain rfl : f = 7 := Option.some.inj ((show Tryd.prog.funcNamed "stole/stolelaw5.StepStays" = some 7 by kernel_rfl).symm.trans hf) |>.symm
  obtain rfl : fn = Tryd.f7 := (Option.some.inj (Tryd.func7.symm.trans hfn)).symm
  refine ⟨by kernel_rfl, fun j t ht => ?_⟩
  rw [Tryd.params7] at ht
  have hm := Array.mem_of_getElem? ht
  have hall : (#[3, 3, 9] : Array TypeId).all (fun t => Tryd.prog.wantsStandIn t == false) = true := by kernel_rfl
  rw [Array.all_eq_true'] at hall
  exact eq_of_beq (hall t hm)
theorem proved : Rows.StepStaysCardSaid :=
  Claim7.holds_tied_plain_at .later [] _ _ _ _ said (fun _ h => by cases h) (by kernel_rfl) (fun _ h => by cases h) stepStays_row_tie rfl ⟨rfl, rfl⟩ (by kernel_rfl) rfl plain (by kernel_rfl)
end Go.Proofs.YtgbaakopneldaaaDoor.RowStepStays
namespace Go.Proofs.YtgbaakopneldaaaDoor
theorem stepStays_holds : Rows.StepStaysCardSaid := RowStepStays.proved
#print axioms stepStays_holds
end Go.Proofs.YtgbaakopneldaaaDoor
end
