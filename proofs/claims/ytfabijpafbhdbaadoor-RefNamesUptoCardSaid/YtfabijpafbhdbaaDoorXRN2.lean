/- Laid by xprint.py, a program of this session over the kit's print: for each Go function one Lean function of the same answers, and the walk that shows it. -/
import Derived.Test.YtfabijpafbhdbaaDoorXRN0
namespace Go.Proofs.YtfabijpafbhdbaaDoor.XRN
open Go.RowKit Go.Proofs.YtfabijpafbhdbaaDoor.Ext Go.Proofs.YtfabijpafbhdbaaDoor.XR Go.Proofs.YtfabijpafbhdbaaDoorW.PrintWords Go.Proofs.YtfabijpafbhdbaaDoorW.PrintLast Go.Proofs.YtfabijpafbhdbaaDoorW.PrintMore
attribute [local go_sem] max2_int min2_int max_two min_two max_three min_three max_four min_four   -- for this text's walks alone
set_option linter.unusedVariables false
set_option linter.unusedSimpArgs false

/-! ### stolelaw2_RefNames: function 6 -/
def stolelaw2_RefNames.f (k : Nat) (a0 : Int) (a1 : ByteArray) : Option (Bool) := (stolelaw2_awake.f).bind fun t101 => (if t101 = true then ((some (([(⟨#[97, 109, 112]⟩ : ByteArray), (⟨#[108, 116]⟩ : ByteArray), (⟨#[103, 116]⟩ : ByteArray), (⟨#[113, 117, 111, 116]⟩ : ByteArray), (⟨#[97, 112, 111, 115]⟩ : ByteArray), (⟨#[110, 98, 115, 112]⟩ : ByteArray), (⟨#[99, 111, 112, 121]⟩ : ByteArray)] : List ByteArray) : List ByteArray)).bind fun y102 => ((some (([(⟨#[38]⟩ : ByteArray), (⟨#[60]⟩ : ByteArray), (⟨#[62]⟩ : ByteArray), (⟨#[34]⟩ : ByteArray), (⟨#[39]⟩ : ByteArray), (⟨#[194, 160]⟩ : ByteArray), (⟨#[194, 169]⟩ : ByteArray)] : List ByteArray) : List ByteArray)).bind fun y105 => (if 0 ≤ (wrap64 (Int.tmod (IntKind.u64.wrap (a0)) 7)) then (if (wrap64 (Int.tmod (IntKind.u64.wrap (a0)) 7)) < (y102.length : Int) then (if 1 + (rdOf ByteArray.empty y102 (wrap64 (Int.tmod (IntKind.u64.wrap (a0)) 7))).size ≤ 9223372036854775807 then (if 1 + (rdOf ByteArray.empty y102 (wrap64 (Int.tmod (IntKind.u64.wrap (a0)) 7))).size + 1 ≤ 9223372036854775807 then ((refs_Decode.f (((⟨#[38]⟩ : ByteArray) ++ (rdOf ByteArray.empty y102 (wrap64 (Int.tmod (IntKind.u64.wrap (a0)) 7)))) ++ (⟨#[59]⟩ : ByteArray))).bind fun t109 => (if (wrap64 (Int.tmod (IntKind.u64.wrap (a0)) 7)) < (y105.length : Int) then (if t109.toList = (rdOf ByteArray.empty y105 (wrap64 (Int.tmod (IntKind.u64.wrap (a0)) 7))).toList then ((refs_Decode.f ((⟨#[38]⟩ : ByteArray) ++ (rdOf ByteArray.empty y102 (wrap64 (Int.tmod (IntKind.u64.wrap (a0)) 7))))).bind fun t111 => (if t111.toList = ((⟨#[38]⟩ : ByteArray) ++ (rdOf ByteArray.empty y102 (wrap64 (Int.tmod (IntKind.u64.wrap (a0)) 7)))).toList then (if 1 + (rdOf ByteArray.empty y102 (wrap64 (Int.tmod (IntKind.u64.wrap (a0)) 7))).size + 2 ≤ 9223372036854775807 then ((refs_Decode.f (((⟨#[38]⟩ : ByteArray) ++ (rdOf ByteArray.empty y102 (wrap64 (Int.tmod (IntKind.u64.wrap (a0)) 7)))) ++ (⟨#[32, 59]⟩ : ByteArray))).bind fun t112 => (if t112.toList = (((⟨#[38]⟩ : ByteArray) ++ (rdOf ByteArray.empty y102 (wrap64 (Int.tmod (IntKind.u64.wrap (a0)) 7)))) ++ (⟨#[32, 59]⟩ : ByteArray)).toList then (if 2 + (rdOf ByteArray.empty y102 (wrap64 (Int.tmod (IntKind.u64.wrap (a0)) 7))).size ≤ 9223372036854775807 then (if 2 + (rdOf ByteArray.empty y102 (wrap64 (Int.tmod (IntKind.u64.wrap (a0)) 7))).size + 1 ≤ 9223372036854775807 then ((refs_Decode.f (((⟨#[38, 65]⟩ : ByteArray) ++ (rdOf ByteArray.empty y102 (wrap64 (Int.tmod (IntKind.u64.wrap (a0)) 7)))) ++ (⟨#[59]⟩ : ByteArray))).bind fun t114 => (if t114.toList = (((⟨#[38, 65]⟩ : ByteArray) ++ (rdOf ByteArray.empty y102 (wrap64 (Int.tmod (IntKind.u64.wrap (a0)) 7)))) ++ (⟨#[59]⟩ : ByteArray)).toList then (if 1 + (rdOf ByteArray.empty y102 (wrap64 (Int.tmod (IntKind.u64.wrap (a0)) 7))).size + 1 + (1 + (rdOf ByteArray.empty y102 (wrap64 (Int.tmod (IntKind.u64.wrap (a0)) 7))).size) ≤ 9223372036854775807 then (if 1 + (rdOf ByteArray.empty y102 (wrap64 (Int.tmod (IntKind.u64.wrap (a0)) 7))).size + 1 + (1 + (rdOf ByteArray.empty y102 (wrap64 (Int.tmod (IntKind.u64.wrap (a0)) 7))).size) + 1 ≤ 9223372036854775807 then ((refs_Decode.f (((((⟨#[38]⟩ : ByteArray) ++ (rdOf ByteArray.empty y102 (wrap64 (Int.tmod (IntKind.u64.wrap (a0)) 7)))) ++ (⟨#[59]⟩ : ByteArray)) ++ ((⟨#[38]⟩ : ByteArray) ++ (rdOf ByteArray.empty y102 (wrap64 (Int.tmod (IntKind.u64.wrap (a0)) 7))))) ++ (⟨#[59]⟩ : ByteArray))).bind fun t116 => (if (rdOf ByteArray.empty y105 (wrap64 (Int.tmod (IntKind.u64.wrap (a0)) 7))).size + (rdOf ByteArray.empty y105 (wrap64 (Int.tmod (IntKind.u64.wrap (a0)) 7))).size ≤ 9223372036854775807 then (if t116.toList = ((rdOf ByteArray.empty y105 (wrap64 (Int.tmod (IntKind.u64.wrap (a0)) 7))) ++ (rdOf ByteArray.empty y105 (wrap64 (Int.tmod (IntKind.u64.wrap (a0)) 7)))).toList then (if 1 + (1 + (rdOf ByteArray.empty y102 (wrap64 (Int.tmod (IntKind.u64.wrap (a0)) 7))).size) ≤ 9223372036854775807 then (if 1 + (1 + (rdOf ByteArray.empty y102 (wrap64 (Int.tmod (IntKind.u64.wrap (a0)) 7))).size) + 1 ≤ 9223372036854775807 then ((refs_Encode.f a1).bind fun t119 => (if 1 + (1 + (rdOf ByteArray.empty y102 (wrap64 (Int.tmod (IntKind.u64.wrap (a0)) 7))).size) + 1 + t119.size ≤ 9223372036854775807 then ((refs_Decode.f ((((⟨#[120]⟩ : ByteArray) ++ ((⟨#[38]⟩ : ByteArray) ++ (rdOf ByteArray.empty y102 (wrap64 (Int.tmod (IntKind.u64.wrap (a0)) 7))))) ++ (⟨#[59]⟩ : ByteArray)) ++ t119)).bind fun t120 => (if 1 + (rdOf ByteArray.empty y105 (wrap64 (Int.tmod (IntKind.u64.wrap (a0)) 7))).size ≤ 9223372036854775807 then ((stoleref1_Norm.f k a1).bind fun t122 => (if 1 + (rdOf ByteArray.empty y105 (wrap64 (Int.tmod (IntKind.u64.wrap (a0)) 7))).size + t122.size ≤ 9223372036854775807 then (some (t120.toList == (((⟨#[120]⟩ : ByteArray) ++ (rdOf ByteArray.empty y105 (wrap64 (Int.tmod (IntKind.u64.wrap (a0)) 7)))) ++ t122).toList)) else (none))) else (none))) else (none))) else (none)) else (none)) else (some false)) else (none))) else (none)) else (none)) else (some false))) else (none)) else (none)) else (some false))) else (none)) else (some false))) else (some false)) else (none))) else (none)) else (none)) else (none)) else (none)))) else (some false))
theorem stolelaw2_RefNames.mono : ∀ a0 a1 k, LeO (stolelaw2_RefNames.f k a0 a1) (stolelaw2_RefNames.f (k + 1) a0 a1) := by
 intro a0 a1 k
 unfold stolelaw2_RefNames.f
 repeat' first
   | (with_reducible exact stoleref1_Norm.mono _ _)
   | (with_reducible exact LeO.refl _)
   | (with_reducible exact LeO.none _)
   | (with_reducible refine LeO.ite ?_ ?_)
   | (with_reducible refine LeO.bind ?_ (fun _ => ?_))
   | exact stoleref1_Norm.mono _ _
   | exact LeO.none _
   | refine LeO.ite ?_ ?_
   | refine LeO.bind ?_ (fun _ => ?_)
def stolelaw2_RefNames.T7 : Bool × List (List Nat × List Nat) := (true, [([], []), ([0], [0]), ([1], [1]), ([], []), ([], []), ([3, 4], [3, 4]), ([5], [5]), ([2, 6], [2, 6]), ([7, 2], [7]), ([8], [8]), ([9, 8, 8], [8, 9]), ([8], [8]), ([10, 11, 8], [8, 10, 11]), ([8, 12], [8, 12]), ([13, 10], [13]), ([14], [14]), ([15, 14], [14, 15]), ([16, 14, 14], [14, 16]), ([14], [14]), ([18, 14], [14, 18]), ([17, 19, 14], [14, 17, 19]), ([14, 20], [14, 20]), ([21, 17], [21]), ([22], [22]), ([22], [22]), ([23, 24, 22], [22, 23, 24]), ([25, 22], [22, 25]), ([26, 22], [22, 26]), ([27, 22], [22, 27]), ([28, 22, 22], [22, 28]), ([22], [22]), ([22], [22]), ([30, 31, 22], [22, 30, 31]), ([32, 22], [22, 32]), ([33, 22], [22, 33]), ([34, 22], [22, 34]), ([29, 35, 22], [22, 29, 35]), ([22, 36], [22, 36]), ([37, 29], [37]), ([38], [38]), ([39, 38], [38, 39]), ([38], [38]), ([40, 41, 38], [38, 40, 41]), ([42, 38], [38, 42]), ([43, 38, 38], [38, 43]), ([38], [38]), ([38], [38]), ([45, 46, 38], [38, 45, 46]), ([47, 38], [38, 47]), ([38], [38]), ([38], [38]), ([49, 50, 38], [38, 49, 50]), ([51, 38], [38, 51]), ([48, 52, 38], [38, 48, 52]), ([44, 53, 38], [38, 44, 53]), ([38, 54], [38, 54]), ([55, 44], [55]), ([56], [56]), ([57, 56], [56, 57]), ([58, 56], [56, 58]), ([56], [56]), ([60, 56, 56], [56, 60]), ([59, 61, 56], [56, 59, 61]), ([62, 61, 56], [56, 62]), ([56], [56]), ([56], [56]), ([64, 65, 56], [56, 64, 65]), ([66, 56], [56, 66]), ([67, 56], [56, 67]), ([56], [56]), ([69, 63, 56], [56, 69]), ([68, 70, 56], [56, 68, 70]), ([63, 71, 56], [56, 63, 71]), ([56, 72], [56, 72]), ([73, 70, 0, 1, 2, 3, 4, 5, 6, 7, 8, 9, 10, 11, 12, 13, 14, 15, 16, 17, 18, 19, 20, 21, 22, 23, 24, 25, 26, 27, 28, 29, 30, 31, 32, 33, 34, 35, 36, 37, 38, 39, 40, 41, 42, 43, 44, 45, 46, 47, 48, 49, 50, 51, 52, 53, 54, 55, 56, 57, 58, 59, 60, 61, 62, 63, 64, 65, 66, 67, 68, 69, 70, 71, 72, 73], [73])])
def stolelaw2_RefNames.B7 : List Nat := [0, 1, 3, 0, 0, 24, 56, 127, 255, 511, 1023, 511, 4095, 8191, 16383, 32767, 65535, 131071, 32767, 294911, 1048575, 2097151, 4194303, 8388607, 8388607, 33554431, 67108863, 134217727, 268435455, 536870911, 8388607, 8388607, 3229614079, 7524581375, 16114515967, 33294385151, 68719476735, 137438953471, 274877906943, 549755813887, 1099511627775, 549755813887, 4398046511103, 8796093022207, 17592186044415, 549755813887, 549755813887, 106102872080383, 246840360435711, 549755813887, 549755813887, 1689399616077823, 3941199429763071, 8972564638466047, 18014398509481983, 36028797018963967, 72057594037927935, 144115188075855871, 288230376151711743, 576460752303423487, 144115188075855871, 1297036692682702847, 4611686018427387903, 9223372036854775807, 144115188075855871, 144115188075855871, 55484347409204510719, 129271323704042717183, 276845276293719130111, 144115188075855871, 608742554432415203327, 2361183241434822606847, 4722366482869645213695, 9444732965739290427391, 18889465931478580854783]
theorem stolelaw2_RefNames.tab7 : rtab .any (opsOf Tryd.f6 7) = stolelaw2_RefNames.T7 := by kernel_rfl
theorem stolelaw2_RefNames.bits7 : waitsOk stolelaw2_RefNames.T7.2 stolelaw2_RefNames.B7 = true := by kernel_rfl
set_option maxHeartbeats 8000000 in
set_option maxRecDepth 100000 in
theorem stolelaw2_RefNames.callsT (k : Nat) (a0 : Int) (a1 : ByteArray) (r : Bool) (w : World) (hr : r = true) (hT : Tabs w) (h : stolelaw2_RefNames.f k a0 a1 = some r) :
  Calls Tryd.prog 6 #[.int .i64 a0, .string a1] w fun e w' => e = .returned (.bool r) ∧ Below w.heap.size w w' := by
 have HT := Aside0.mk hT
 clear hT
 have HB := Aside0.mk (Below.refl w.heap.size w)
 have H : ((stolelaw2_awake.f).bind fun t101 => (if t101 = true then ((some (([(⟨#[97, 109, 112]⟩ : ByteArray), (⟨#[108, 116]⟩ : ByteArray), (⟨#[103, 116]⟩ : ByteArray), (⟨#[113, 117, 111, 116]⟩ : ByteArray), (⟨#[97, 112, 111, 115]⟩ : ByteArray), (⟨#[110, 98, 115, 112]⟩ : ByteArray), (⟨#[99, 111, 112, 121]⟩ : ByteArray)] : List ByteArray) : List ByteArray)).bind fun y102 => ((some (([(⟨#[38]⟩ : ByteArray), (⟨#[60]⟩ : ByteArray), (⟨#[62]⟩ : ByteArray), (⟨#[34]⟩ : ByteArray), (⟨#[39]⟩ : ByteArray), (⟨#[194, 160]⟩ : ByteArray), (⟨#[194, 169]⟩ : ByteArray)] : List ByteArray) : List ByteArray)).bind fun y105 => (if 0 ≤ (wrap64 (Int.tmod (IntKind.u64.wrap (a0)) 7)) then (if (wrap64 (Int.tmod (IntKind.u64.wrap (a0)) 7)) < (y102.length : Int) then (if 1 + (rdOf ByteArray.empty y102 (wrap64 (Int.tmod (IntKind.u64.wrap (a0)) 7))).size ≤ 9223372036854775807 then (if 1 + (rdOf ByteArray.empty y102 (wrap64 (Int.tmod (IntKind.u64.wrap (a0)) 7))).size + 1 ≤ 9223372036854775807 then ((refs_Decode.f (((⟨#[38]⟩ : ByteArray) ++ (rdOf ByteArray.empty y102 (wrap64 (Int.tmod (IntKind.u64.wrap (a0)) 7)))) ++ (⟨#[59]⟩ : ByteArray))).bind fun t109 => (if (wrap64 (Int.tmod (IntKind.u64.wrap (a0)) 7)) < (y105.length : Int) then (if t109.toList = (rdOf ByteArray.empty y105 (wrap64 (Int.tmod (IntKind.u64.wrap (a0)) 7))).toList then ((refs_Decode.f ((⟨#[38]⟩ : ByteArray) ++ (rdOf ByteArray.empty y102 (wrap64 (Int.tmod (IntKind.u64.wrap (a0)) 7))))).bind fun t111 => (if t111.toList = ((⟨#[38]⟩ : ByteArray) ++ (rdOf ByteArray.empty y102 (wrap64 (Int.tmod (IntKind.u64.wrap (a0)) 7)))).toList then (if 1 + (rdOf ByteArray.empty y102 (wrap64 (Int.tmod (IntKind.u64.wrap (a0)) 7))).size + 2 ≤ 9223372036854775807 then ((refs_Decode.f (((⟨#[38]⟩ : ByteArray) ++ (rdOf ByteArray.empty y102 (wrap64 (Int.tmod (IntKind.u64.wrap (a0)) 7)))) ++ (⟨#[32, 59]⟩ : ByteArray))).bind fun t112 => (if t112.toList = (((⟨#[38]⟩ : ByteArray) ++ (rdOf ByteArray.empty y102 (wrap64 (Int.tmod (IntKind.u64.wrap (a0)) 7)))) ++ (⟨#[32, 59]⟩ : ByteArray)).toList then (if 2 + (rdOf ByteArray.empty y102 (wrap64 (Int.tmod (IntKind.u64.wrap (a0)) 7))).size ≤ 9223372036854775807 then (if 2 + (rdOf ByteArray.empty y102 (wrap64 (Int.tmod (IntKind.u64.wrap (a0)) 7))).size + 1 ≤ 9223372036854775807 then ((refs_Decode.f (((⟨#[38, 65]⟩ : ByteArray) ++ (rdOf ByteArray.empty y102 (wrap64 (Int.tmod (IntKind.u64.wrap (a0)) 7)))) ++ (⟨#[59]⟩ : ByteArray))).bind fun t114 => (if t114.toList = (((⟨#[38, 65]⟩ : ByteArray) ++ (rdOf ByteArray.empty y102 (wrap64 (Int.tmod (IntKind.u64.wrap (a0)) 7)))) ++ (⟨#[59]⟩ : ByteArray)).toList then (if 1 + (rdOf ByteArray.empty y102 (wrap64 (Int.tmod (IntKind.u64.wrap (a0)) 7))).size + 1 + (1 + (rdOf ByteArray.empty y102 (wrap64 (Int.tmod (IntKind.u64.wrap (a0)) 7))).size) ≤ 9223372036854775807 then (if 1 + (rdOf ByteArray.empty y102 (wrap64 (Int.tmod (IntKind.u64.wrap (a0)) 7))).size + 1 + (1 + (rdOf ByteArray.empty y102 (wrap64 (Int.tmod (IntKind.u64.wrap (a0)) 7))).size) + 1 ≤ 9223372036854775807 then ((refs_Decode.f (((((⟨#[38]⟩ : ByteArray) ++ (rdOf ByteArray.empty y102 (wrap64 (Int.tmod (IntKind.u64.wrap (a0)) 7)))) ++ (⟨#[59]⟩ : ByteArray)) ++ ((⟨#[38]⟩ : ByteArray) ++ (rdOf ByteArray.empty y102 (wrap64 (Int.tmod (IntKind.u64.wrap (a0)) 7))))) ++ (⟨#[59]⟩ : ByteArray))).bind fun t116 => (if (rdOf ByteArray.empty y105 (wrap64 (Int.tmod (IntKind.u64.wrap (a0)) 7))).size + (rdOf ByteArray.empty y105 (wrap64 (Int.tmod (IntKind.u64.wrap (a0)) 7))).size ≤ 9223372036854775807 then (if t116.toList = ((rdOf ByteArray.empty y105 (wrap64 (Int.tmod (IntKind.u64.wrap (a0)) 7))) ++ (rdOf ByteArray.empty y105 (wrap64 (Int.tmod (IntKind.u64.wrap (a0)) 7)))).toList then (if 1 + (1 + (rdOf ByteArray.empty y102 (wrap64 (Int.tmod (IntKind.u64.wrap (a0)) 7))).size) ≤ 9223372036854775807 then (if 1 + (1 + (rdOf ByteArray.empty y102 (wrap64 (Int.tmod (IntKind.u64.wrap (a0)) 7))).size) + 1 ≤ 9223372036854775807 then ((refs_Encode.f a1).bind fun t119 => (if 1 + (1 + (rdOf ByteArray.empty y102 (wrap64 (Int.tmod (IntKind.u64.wrap (a0)) 7))).size) + 1 + t119.size ≤ 9223372036854775807 then ((refs_Decode.f ((((⟨#[120]⟩ : ByteArray) ++ ((⟨#[38]⟩ : ByteArray) ++ (rdOf ByteArray.empty y102 (wrap64 (Int.tmod (IntKind.u64.wrap (a0)) 7))))) ++ (⟨#[59]⟩ : ByteArray)) ++ t119)).bind fun t120 => (if 1 + (rdOf ByteArray.empty y105 (wrap64 (Int.tmod (IntKind.u64.wrap (a0)) 7))).size ≤ 9223372036854775807 then ((stoleref1_Norm.f k a1).bind fun t122 => (if 1 + (rdOf ByteArray.empty y105 (wrap64 (Int.tmod (IntKind.u64.wrap (a0)) 7))).size + t122.size ≤ 9223372036854775807 then (some (t120.toList == (((⟨#[120]⟩ : ByteArray) ++ (rdOf ByteArray.empty y105 (wrap64 (Int.tmod (IntKind.u64.wrap (a0)) 7)))) ++ t122).toList)) else (none))) else (none))) else (none))) else (none)) else (none)) else (some false)) else (none))) else (none)) else (none)) else (some false))) else (none)) else (none)) else (some false))) else (none)) else (some false))) else (some false)) else (none))) else (none)) else (none)) else (none)) else (none)))) else (some false))) = some r := h
 clear h
 replace H := Option.bind_eq_some_iff.mp H
 obtain ⟨t101, A30, H⟩ := H
 replace H : (if t101 = true then ((some (([(⟨#[97, 109, 112]⟩ : ByteArray), (⟨#[108, 116]⟩ : ByteArray), (⟨#[103, 116]⟩ : ByteArray), (⟨#[113, 117, 111, 116]⟩ : ByteArray), (⟨#[97, 112, 111, 115]⟩ : ByteArray), (⟨#[110, 98, 115, 112]⟩ : ByteArray), (⟨#[99, 111, 112, 121]⟩ : ByteArray)] : List ByteArray) : List ByteArray)).bind fun y102 => ((some (([(⟨#[38]⟩ : ByteArray), (⟨#[60]⟩ : ByteArray), (⟨#[62]⟩ : ByteArray), (⟨#[34]⟩ : ByteArray), (⟨#[39]⟩ : ByteArray), (⟨#[194, 160]⟩ : ByteArray), (⟨#[194, 169]⟩ : ByteArray)] : List ByteArray) : List ByteArray)).bind fun y105 => (if 0 ≤ (wrap64 (Int.tmod (IntKind.u64.wrap (a0)) 7)) then (if (wrap64 (Int.tmod (IntKind.u64.wrap (a0)) 7)) < (y102.length : Int) then (if 1 + (rdOf ByteArray.empty y102 (wrap64 (Int.tmod (IntKind.u64.wrap (a0)) 7))).size ≤ 9223372036854775807 then (if 1 + (rdOf ByteArray.empty y102 (wrap64 (Int.tmod (IntKind.u64.wrap (a0)) 7))).size + 1 ≤ 9223372036854775807 then ((refs_Decode.f (((⟨#[38]⟩ : ByteArray) ++ (rdOf ByteArray.empty y102 (wrap64 (Int.tmod (IntKind.u64.wrap (a0)) 7)))) ++ (⟨#[59]⟩ : ByteArray))).bind fun t109 => (if (wrap64 (Int.tmod (IntKind.u64.wrap (a0)) 7)) < (y105.length : Int) then (if t109.toList = (rdOf ByteArray.empty y105 (wrap64 (Int.tmod (IntKind.u64.wrap (a0)) 7))).toList then ((refs_Decode.f ((⟨#[38]⟩ : ByteArray) ++ (rdOf ByteArray.empty y102 (wrap64 (Int.tmod (IntKind.u64.wrap (a0)) 7))))).bind fun t111 => (if t111.toList = ((⟨#[38]⟩ : ByteArray) ++ (rdOf ByteArray.empty y102 (wrap64 (Int.tmod (IntKind.u64.wrap (a0)) 7)))).toList then (if 1 + (rdOf ByteArray.empty y102 (wrap64 (Int.tmod (IntKind.u64.wrap (a0)) 7))).size + 2 ≤ 9223372036854775807 then ((refs_Decode.f (((⟨#[38]⟩ : ByteArray) ++ (rdOf ByteArray.empty y102 (wrap64 (Int.tmod (IntKind.u64.wrap (a0)) 7)))) ++ (⟨#[32, 59]⟩ : ByteArray))).bind fun t112 => (if t112.toList = (((⟨#[38]⟩ : ByteArray) ++ (rdOf ByteArray.empty y102 (wrap64 (Int.tmod (IntKind.u64.wrap (a0)) 7)))) ++ (⟨#[32, 59]⟩ : ByteArray)).toList then (if 2 + (rdOf ByteArray.empty y102 (wrap64 (Int.tmod (IntKind.u64.wrap (a0)) 7))).size ≤ 9223372036854775807 then (if 2 + (rdOf ByteArray.empty y102 (wrap64 (Int.tmod (IntKind.u64.wrap (a0)) 7))).size + 1 ≤ 9223372036854775807 then ((refs_Decode.f (((⟨#[38, 65]⟩ : ByteArray) ++ (rdOf ByteArray.empty y102 (wrap64 (Int.tmod (IntKind.u64.wrap (a0)) 7)))) ++ (⟨#[59]⟩ : ByteArray))).bind fun t114 => (if t114.toList = (((⟨#[38, 65]⟩ : ByteArray) ++ (rdOf ByteArray.empty y102 (wrap64 (Int.tmod (IntKind.u64.wrap (a0)) 7)))) ++ (⟨#[59]⟩ : ByteArray)).toList then (if 1 + (rdOf ByteArray.empty y102 (wrap64 (Int.tmod (IntKind.u64.wrap (a0)) 7))).size + 1 + (1 + (rdOf ByteArray.empty y102 (wrap64 (Int.tmod (IntKind.u64.wrap (a0)) 7))).size) ≤ 9223372036854775807 then (if 1 + (rdOf ByteArray.empty y102 (wrap64 (Int.tmod (IntKind.u64.wrap (a0)) 7))).size + 1 + (1 + (rdOf ByteArray.empty y102 (wrap64 (Int.tmod (IntKind.u64.wrap (a0)) 7))).size) + 1 ≤ 9223372036854775807 then ((refs_Decode.f (((((⟨#[38]⟩ : ByteArray) ++ (rdOf ByteArray.empty y102 (wrap64 (Int.tmod (IntKind.u64.wrap (a0)) 7)))) ++ (⟨#[59]⟩ : ByteArray)) ++ ((⟨#[38]⟩ : ByteArray) ++ (rdOf ByteArray.empty y102 (wrap64 (Int.tmod (IntKind.u64.wrap (a0)) 7))))) ++ (⟨#[59]⟩ : ByteArray))).bind fun t116 => (if (rdOf ByteArray.empty y105 (wrap64 (Int.tmod (IntKind.u64.wrap (a0)) 7))).size + (rdOf ByteArray.empty y105 (wrap64 (Int.tmod (IntKind.u64.wrap (a0)) 7))).size ≤ 9223372036854775807 then (if t116.toList = ((rdOf ByteArray.empty y105 (wrap64 (Int.tmod (IntKind.u64.wrap (a0)) 7))) ++ (rdOf ByteArray.empty y105 (wrap64 (Int.tmod (IntKind.u64.wrap (a0)) 7)))).toList then (if 1 + (1 + (rdOf ByteArray.empty y102 (wrap64 (Int.tmod (IntKind.u64.wrap (a0)) 7))).size) ≤ 9223372036854775807 then (if 1 + (1 + (rdOf ByteArray.empty y102 (wrap64 (Int.tmod (IntKind.u64.wrap (a0)) 7))).size) + 1 ≤ 9223372036854775807 then ((refs_Encode.f a1).bind fun t119 => (if 1 + (1 + (rdOf ByteArray.empty y102 (wrap64 (Int.tmod (IntKind.u64.wrap (a0)) 7))).size) + 1 + t119.size ≤ 9223372036854775807 then ((refs_Decode.f ((((⟨#[120]⟩ : ByteArray) ++ ((⟨#[38]⟩ : ByteArray) ++ (rdOf ByteArray.empty y102 (wrap64 (Int.tmod (IntKind.u64.wrap (a0)) 7))))) ++ (⟨#[59]⟩ : ByteArray)) ++ t119)).bind fun t120 => (if 1 + (rdOf ByteArray.empty y105 (wrap64 (Int.tmod (IntKind.u64.wrap (a0)) 7))).size ≤ 9223372036854775807 then ((stoleref1_Norm.f k a1).bind fun t122 => (if 1 + (rdOf ByteArray.empty y105 (wrap64 (Int.tmod (IntKind.u64.wrap (a0)) 7))).size + t122.size ≤ 9223372036854775807 then (some (t120.toList == (((⟨#[120]⟩ : ByteArray) ++ (rdOf ByteArray.empty y105 (wrap64 (Int.tmod (IntKind.u64.wrap (a0)) 7)))) ++ t122).toList)) else (none))) else (none))) else (none))) else (none)) else (none)) else (some false)) else (none))) else (none)) else (none)) else (some false))) else (none)) else (none)) else (some false))) else (none)) else (some false))) else (some false)) else (none))) else (none)) else (none)) else (none)) else (none)))) else (some false)) = some r := H
 have A3 := Aside0.mk A30
 clear A30
 by_cases c4 : t101 = true
 ·subst c4
  have H1 : ((some (([(⟨#[97, 109, 112]⟩ : ByteArray), (⟨#[108, 116]⟩ : ByteArray), (⟨#[103, 116]⟩ : ByteArray), (⟨#[113, 117, 111, 116]⟩ : ByteArray), (⟨#[97, 112, 111, 115]⟩ : ByteArray), (⟨#[110, 98, 115, 112]⟩ : ByteArray), (⟨#[99, 111, 112, 121]⟩ : ByteArray)] : List ByteArray) : List ByteArray)).bind fun y102 => ((some (([(⟨#[38]⟩ : ByteArray), (⟨#[60]⟩ : ByteArray), (⟨#[62]⟩ : ByteArray), (⟨#[34]⟩ : ByteArray), (⟨#[39]⟩ : ByteArray), (⟨#[194, 160]⟩ : ByteArray), (⟨#[194, 169]⟩ : ByteArray)] : List ByteArray) : List ByteArray)).bind fun y105 => (if 0 ≤ (wrap64 (Int.tmod (IntKind.u64.wrap (a0)) 7)) then (if (wrap64 (Int.tmod (IntKind.u64.wrap (a0)) 7)) < (y102.length : Int) then (if 1 + (rdOf ByteArray.empty y102 (wrap64 (Int.tmod (IntKind.u64.wrap (a0)) 7))).size ≤ 9223372036854775807 then (if 1 + (rdOf ByteArray.empty y102 (wrap64 (Int.tmod (IntKind.u64.wrap (a0)) 7))).size + 1 ≤ 9223372036854775807 then ((refs_Decode.f (((⟨#[38]⟩ : ByteArray) ++ (rdOf ByteArray.empty y102 (wrap64 (Int.tmod (IntKind.u64.wrap (a0)) 7)))) ++ (⟨#[59]⟩ : ByteArray))).bind fun t109 => (if (wrap64 (Int.tmod (IntKind.u64.wrap (a0)) 7)) < (y105.length : Int) then (if t109.toList = (rdOf ByteArray.empty y105 (wrap64 (Int.tmod (IntKind.u64.wrap (a0)) 7))).toList then ((refs_Decode.f ((⟨#[38]⟩ : ByteArray) ++ (rdOf ByteArray.empty y102 (wrap64 (Int.tmod (IntKind.u64.wrap (a0)) 7))))).bind fun t111 => (if t111.toList = ((⟨#[38]⟩ : ByteArray) ++ (rdOf ByteArray.empty y102 (wrap64 (Int.tmod (IntKind.u64.wrap (a0)) 7)))).toList then (if 1 + (rdOf ByteArray.empty y102 (wrap64 (Int.tmod (IntKind.u64.wrap (a0)) 7))).size + 2 ≤ 9223372036854775807 then ((refs_Decode.f (((⟨#[38]⟩ : ByteArray) ++ (rdOf ByteArray.empty y102 (wrap64 (Int.tmod (IntKind.u64.wrap (a0)) 7)))) ++ (⟨#[32, 59]⟩ : ByteArray))).bind fun t112 => (if t112.toList = (((⟨#[38]⟩ : ByteArray) ++ (rdOf ByteArray.empty y102 (wrap64 (Int.tmod (IntKind.u64.wrap (a0)) 7)))) ++ (⟨#[32, 59]⟩ : ByteArray)).toList then (if 2 + (rdOf ByteArray.empty y102 (wrap64 (Int.tmod (IntKind.u64.wrap (a0)) 7))).size ≤ 9223372036854775807 then (if 2 + (rdOf ByteArray.empty y102 (wrap64 (Int.tmod (IntKind.u64.wrap (a0)) 7))).size + 1 ≤ 9223372036854775807 then ((refs_Decode.f (((⟨#[38, 65]⟩ : ByteArray) ++ (rdOf ByteArray.empty y102 (wrap64 (Int.tmod (IntKind.u64.wrap (a0)) 7)))) ++ (⟨#[59]⟩ : ByteArray))).bind fun t114 => (if t114.toList = (((⟨#[38, 65]⟩ : ByteArray) ++ (rdOf ByteArray.empty y102 (wrap64 (Int.tmod (IntKind.u64.wrap (a0)) 7)))) ++ (⟨#[59]⟩ : ByteArray)).toList then (if 1 + (rdOf ByteArray.empty y102 (wrap64 (Int.tmod (IntKind.u64.wrap (a0)) 7))).size + 1 + (1 + (rdOf ByteArray.empty y102 (wrap64 (Int.tmod (IntKind.u64.wrap (a0)) 7))).size) ≤ 9223372036854775807 then (if 1 + (rdOf ByteArray.empty y102 (wrap64 (Int.tmod (IntKind.u64.wrap (a0)) 7))).size + 1 + (1 + (rdOf ByteArray.empty y102 (wrap64 (Int.tmod (IntKind.u64.wrap (a0)) 7))).size) + 1 ≤ 9223372036854775807 then ((refs_Decode.f (((((⟨#[38]⟩ : ByteArray) ++ (rdOf ByteArray.empty y102 (wrap64 (Int.tmod (IntKind.u64.wrap (a0)) 7)))) ++ (⟨#[59]⟩ : ByteArray)) ++ ((⟨#[38]⟩ : ByteArray) ++ (rdOf ByteArray.empty y102 (wrap64 (Int.tmod (IntKind.u64.wrap (a0)) 7))))) ++ (⟨#[59]⟩ : ByteArray))).bind fun t116 => (if (rdOf ByteArray.empty y105 (wrap64 (Int.tmod (IntKind.u64.wrap (a0)) 7))).size + (rdOf ByteArray.empty y105 (wrap64 (Int.tmod (IntKind.u64.wrap (a0)) 7))).size ≤ 9223372036854775807 then (if t116.toList = ((rdOf ByteArray.empty y105 (wrap64 (Int.tmod (IntKind.u64.wrap (a0)) 7))) ++ (rdOf ByteArray.empty y105 (wrap64 (Int.tmod (IntKind.u64.wrap (a0)) 7)))).toList then (if 1 + (1 + (rdOf ByteArray.empty y102 (wrap64 (Int.tmod (IntKind.u64.wrap (a0)) 7))).size) ≤ 9223372036854775807 then (if 1 + (1 + (rdOf ByteArray.empty y102 (wrap64 (Int.tmod (IntKind.u64.wrap (a0)) 7))).size) + 1 ≤ 9223372036854775807 then ((refs_Encode.f a1).bind fun t119 => (if 1 + (1 + (rdOf ByteArray.empty y102 (wrap64 (Int.tmod (IntKind.u64.wrap (a0)) 7))).size) + 1 + t119.size ≤ 9223372036854775807 then ((refs_Decode.f ((((⟨#[120]⟩ : ByteArray) ++ ((⟨#[38]⟩ : ByteArray) ++ (rdOf ByteArray.empty y102 (wrap64 (Int.tmod (IntKind.u64.wrap (a0)) 7))))) ++ (⟨#[59]⟩ : ByteArray)) ++ t119)).bind fun t120 => (if 1 + (rdOf ByteArray.empty y105 (wrap64 (Int.tmod (IntKind.u64.wrap (a0)) 7))).size ≤ 9223372036854775807 then ((stoleref1_Norm.f k a1).bind fun t122 => (if 1 + (rdOf ByteArray.empty y105 (wrap64 (Int.tmod (IntKind.u64.wrap (a0)) 7))).size + t122.size ≤ 9223372036854775807 then (some (t120.toList == (((⟨#[120]⟩ : ByteArray) ++ (rdOf ByteArray.empty y105 (wrap64 (Int.tmod (IntKind.u64.wrap (a0)) 7)))) ++ t122).toList)) else (none))) else (none))) else (none))) else (none)) else (none)) else (some false)) else (none))) else (none)) else (none)) else (some false))) else (none)) else (none)) else (some false))) else (none)) else (some false))) else (some false)) else (none))) else (none)) else (none)) else (none)) else (none)))) = some r := by rw [if_pos rfl] at H; exact H
  clear H
  have H := H1
  clear H1
  obtain ⟨y102, hy102⟩ : ∃ y_ : List ByteArray, y_ = (([(⟨#[97, 109, 112]⟩ : ByteArray), (⟨#[108, 116]⟩ : ByteArray), (⟨#[103, 116]⟩ : ByteArray), (⟨#[113, 117, 111, 116]⟩ : ByteArray), (⟨#[97, 112, 111, 115]⟩ : ByteArray), (⟨#[110, 98, 115, 112]⟩ : ByteArray), (⟨#[99, 111, 112, 121]⟩ : ByteArray)] : List ByteArray)) := ⟨_, rfl⟩
  replace H : ((some (([(⟨#[38]⟩ : ByteArray), (⟨#[60]⟩ : ByteArray), (⟨#[62]⟩ : ByteArray), (⟨#[34]⟩ : ByteArray), (⟨#[39]⟩ : ByteArray), (⟨#[194, 160]⟩ : ByteArray), (⟨#[194, 169]⟩ : ByteArray)] : List ByteArray) : List ByteArray)).bind fun y105 => (if 0 ≤ (wrap64 (Int.tmod (IntKind.u64.wrap (a0)) 7)) then (if (wrap64 (Int.tmod (IntKind.u64.wrap (a0)) 7)) < (y102.length : Int) then (if 1 + (rdOf ByteArray.empty y102 (wrap64 (Int.tmod (IntKind.u64.wrap (a0)) 7))).size ≤ 9223372036854775807 then (if 1 + (rdOf ByteArray.empty y102 (wrap64 (Int.tmod (IntKind.u64.wrap (a0)) 7))).size + 1 ≤ 9223372036854775807 then ((refs_Decode.f (((⟨#[38]⟩ : ByteArray) ++ (rdOf ByteArray.empty y102 (wrap64 (Int.tmod (IntKind.u64.wrap (a0)) 7)))) ++ (⟨#[59]⟩ : ByteArray))).bind fun t109 => (if (wrap64 (Int.tmod (IntKind.u64.wrap (a0)) 7)) < (y105.length : Int) then (if t109.toList = (rdOf ByteArray.empty y105 (wrap64 (Int.tmod (IntKind.u64.wrap (a0)) 7))).toList then ((refs_Decode.f ((⟨#[38]⟩ : ByteArray) ++ (rdOf ByteArray.empty y102 (wrap64 (Int.tmod (IntKind.u64.wrap (a0)) 7))))).bind fun t111 => (if t111.toList = ((⟨#[38]⟩ : ByteArray) ++ (rdOf ByteArray.empty y102 (wrap64 (Int.tmod (IntKind.u64.wrap (a0)) 7)))).toList then (if 1 + (rdOf ByteArray.empty y102 (wrap64 (Int.tmod (IntKind.u64.wrap (a0)) 7))).size + 2 ≤ 9223372036854775807 then ((refs_Decode.f (((⟨#[38]⟩ : ByteArray) ++ (rdOf ByteArray.empty y102 (wrap64 (Int.tmod (IntKind.u64.wrap (a0)) 7)))) ++ (⟨#[32, 59]⟩ : ByteArray))).bind fun t112 => (if t112.toList = (((⟨#[38]⟩ : ByteArray) ++ (rdOf ByteArray.empty y102 (wrap64 (Int.tmod (IntKind.u64.wrap (a0)) 7)))) ++ (⟨#[32, 59]⟩ : ByteArray)).toList then (if 2 + (rdOf ByteArray.empty y102 (wrap64 (Int.tmod (IntKind.u64.wrap (a0)) 7))).size ≤ 9223372036854775807 then (if 2 + (rdOf ByteArray.empty y102 (wrap64 (Int.tmod (IntKind.u64.wrap (a0)) 7))).size + 1 ≤ 9223372036854775807 then ((refs_Decode.f (((⟨#[38, 65]⟩ : ByteArray) ++ (rdOf ByteArray.empty y102 (wrap64 (Int.tmod (IntKind.u64.wrap (a0)) 7)))) ++ (⟨#[59]⟩ : ByteArray))).bind fun t114 => (if t114.toList = (((⟨#[38, 65]⟩ : ByteArray) ++ (rdOf ByteArray.empty y102 (wrap64 (Int.tmod (IntKind.u64.wrap (a0)) 7)))) ++ (⟨#[59]⟩ : ByteArray)).toList then (if 1 + (rdOf ByteArray.empty y102 (wrap64 (Int.tmod (IntKind.u64.wrap (a0)) 7))).size + 1 + (1 + (rdOf ByteArray.empty y102 (wrap64 (Int.tmod (IntKind.u64.wrap (a0)) 7))).size) ≤ 9223372036854775807 then (if 1 + (rdOf ByteArray.empty y102 (wrap64 (Int.tmod (IntKind.u64.wrap (a0)) 7))).size + 1 + (1 + (rdOf ByteArray.empty y102 (wrap64 (Int.tmod (IntKind.u64.wrap (a0)) 7))).size) + 1 ≤ 9223372036854775807 then ((refs_Decode.f (((((⟨#[38]⟩ : ByteArray) ++ (rdOf ByteArray.empty y102 (wrap64 (Int.tmod (IntKind.u64.wrap (a0)) 7)))) ++ (⟨#[59]⟩ : ByteArray)) ++ ((⟨#[38]⟩ : ByteArray) ++ (rdOf ByteArray.empty y102 (wrap64 (Int.tmod (IntKind.u64.wrap (a0)) 7))))) ++ (⟨#[59]⟩ : ByteArray))).bind fun t116 => (if (rdOf ByteArray.empty y105 (wrap64 (Int.tmod (IntKind.u64.wrap (a0)) 7))).size + (rdOf ByteArray.empty y105 (wrap64 (Int.tmod (IntKind.u64.wrap (a0)) 7))).size ≤ 9223372036854775807 then (if t116.toList = ((rdOf ByteArray.empty y105 (wrap64 (Int.tmod (IntKind.u64.wrap (a0)) 7))) ++ (rdOf ByteArray.empty y105 (wrap64 (Int.tmod (IntKind.u64.wrap (a0)) 7)))).toList then (if 1 + (1 + (rdOf ByteArray.empty y102 (wrap64 (Int.tmod (IntKind.u64.wrap (a0)) 7))).size) ≤ 9223372036854775807 then (if 1 + (1 + (rdOf ByteArray.empty y102 (wrap64 (Int.tmod (IntKind.u64.wrap (a0)) 7))).size) + 1 ≤ 9223372036854775807 then ((refs_Encode.f a1).bind fun t119 => (if 1 + (1 + (rdOf ByteArray.empty y102 (wrap64 (Int.tmod (IntKind.u64.wrap (a0)) 7))).size) + 1 + t119.size ≤ 9223372036854775807 then ((refs_Decode.f ((((⟨#[120]⟩ : ByteArray) ++ ((⟨#[38]⟩ : ByteArray) ++ (rdOf ByteArray.empty y102 (wrap64 (Int.tmod (IntKind.u64.wrap (a0)) 7))))) ++ (⟨#[59]⟩ : ByteArray)) ++ t119)).bind fun t120 => (if 1 + (rdOf ByteArray.empty y105 (wrap64 (Int.tmod (IntKind.u64.wrap (a0)) 7))).size ≤ 9223372036854775807 then ((stoleref1_Norm.f k a1).bind fun t122 => (if 1 + (rdOf ByteArray.empty y105 (wrap64 (Int.tmod (IntKind.u64.wrap (a0)) 7))).size + t122.size ≤ 9223372036854775807 then (some (t120.toList == (((⟨#[120]⟩ : ByteArray) ++ (rdOf ByteArray.empty y105 (wrap64 (Int.tmod (IntKind.u64.wrap (a0)) 7)))) ++ t122).toList)) else (none))) else (none))) else (none))) else (none)) else (none)) else (some false)) else (none))) else (none)) else (none)) else (some false))) else (none)) else (none)) else (some false))) else (none)) else (some false))) else (some false)) else (none))) else (none)) else (none)) else (none)) else (none))) = some r := by first | (rw [hy102]; with_reducible exact H) | (have H2_ := (Option.bind_some _ _).symm.trans H; rw [hy102]; with_reducible exact H2_) | (have H2_ := (Option.bind_some _ _).symm.trans H; with_reducible exact H2_) | with_reducible exact H | (rw [hy102]; exact H) | exact H
  have Ny102 := Aside0.mk hy102
  clear hy102
  obtain ⟨y105, hy105⟩ : ∃ y_ : List ByteArray, y_ = (([(⟨#[38]⟩ : ByteArray), (⟨#[60]⟩ : ByteArray), (⟨#[62]⟩ : ByteArray), (⟨#[34]⟩ : ByteArray), (⟨#[39]⟩ : ByteArray), (⟨#[194, 160]⟩ : ByteArray), (⟨#[194, 169]⟩ : ByteArray)] : List ByteArray)) := ⟨_, rfl⟩
  replace H : (if 0 ≤ (wrap64 (Int.tmod (IntKind.u64.wrap (a0)) 7)) then (if (wrap64 (Int.tmod (IntKind.u64.wrap (a0)) 7)) < (y102.length : Int) then (if 1 + (rdOf ByteArray.empty y102 (wrap64 (Int.tmod (IntKind.u64.wrap (a0)) 7))).size ≤ 9223372036854775807 then (if 1 + (rdOf ByteArray.empty y102 (wrap64 (Int.tmod (IntKind.u64.wrap (a0)) 7))).size + 1 ≤ 9223372036854775807 then ((refs_Decode.f (((⟨#[38]⟩ : ByteArray) ++ (rdOf ByteArray.empty y102 (wrap64 (Int.tmod (IntKind.u64.wrap (a0)) 7)))) ++ (⟨#[59]⟩ : ByteArray))).bind fun t109 => (if (wrap64 (Int.tmod (IntKind.u64.wrap (a0)) 7)) < (y105.length : Int) then (if t109.toList = (rdOf ByteArray.empty y105 (wrap64 (Int.tmod (IntKind.u64.wrap (a0)) 7))).toList then ((refs_Decode.f ((⟨#[38]⟩ : ByteArray) ++ (rdOf ByteArray.empty y102 (wrap64 (Int.tmod (IntKind.u64.wrap (a0)) 7))))).bind fun t111 => (if t111.toList = ((⟨#[38]⟩ : ByteArray) ++ (rdOf ByteArray.empty y102 (wrap64 (Int.tmod (IntKind.u64.wrap (a0)) 7)))).toList then (if 1 + (rdOf ByteArray.empty y102 (wrap64 (Int.tmod (IntKind.u64.wrap (a0)) 7))).size + 2 ≤ 9223372036854775807 then ((refs_Decode.f (((⟨#[38]⟩ : ByteArray) ++ (rdOf ByteArray.empty y102 (wrap64 (Int.tmod (IntKind.u64.wrap (a0)) 7)))) ++ (⟨#[32, 59]⟩ : ByteArray))).bind fun t112 => (if t112.toList = (((⟨#[38]⟩ : ByteArray) ++ (rdOf ByteArray.empty y102 (wrap64 (Int.tmod (IntKind.u64.wrap (a0)) 7)))) ++ (⟨#[32, 59]⟩ : ByteArray)).toList then (if 2 + (rdOf ByteArray.empty y102 (wrap64 (Int.tmod (IntKind.u64.wrap (a0)) 7))).size ≤ 9223372036854775807 then (if 2 + (rdOf ByteArray.empty y102 (wrap64 (Int.tmod (IntKind.u64.wrap (a0)) 7))).size + 1 ≤ 9223372036854775807 then ((refs_Decode.f (((⟨#[38, 65]⟩ : ByteArray) ++ (rdOf ByteArray.empty y102 (wrap64 (Int.tmod (IntKind.u64.wrap (a0)) 7)))) ++ (⟨#[59]⟩ : ByteArray))).bind fun t114 => (if t114.toList = (((⟨#[38, 65]⟩ : ByteArray) ++ (rdOf ByteArray.empty y102 (wrap64 (Int.tmod (IntKind.u64.wrap (a0)) 7)))) ++ (⟨#[59]⟩ : ByteArray)).toList then (if 1 + (rdOf ByteArray.empty y102 (wrap64 (Int.tmod (IntKind.u64.wrap (a0)) 7))).size + 1 + (1 + (rdOf ByteArray.empty y102 (wrap64 (Int.tmod (IntKind.u64.wrap (a0)) 7))).size) ≤ 9223372036854775807 then (if 1 + (rdOf ByteArray.empty y102 (wrap64 (Int.tmod (IntKind.u64.wrap (a0)) 7))).size + 1 + (1 + (rdOf ByteArray.empty y102 (wrap64 (Int.tmod (IntKind.u64.wrap (a0)) 7))).size) + 1 ≤ 9223372036854775807 then ((refs_Decode.f (((((⟨#[38]⟩ : ByteArray) ++ (rdOf ByteArray.empty y102 (wrap64 (Int.tmod (IntKind.u64.wrap (a0)) 7)))) ++ (⟨#[59]⟩ : ByteArray)) ++ ((⟨#[38]⟩ : ByteArray) ++ (rdOf ByteArray.empty y102 (wrap64 (Int.tmod (IntKind.u64.wrap (a0)) 7))))) ++ (⟨#[59]⟩ : ByteArray))).bind fun t116 => (if (rdOf ByteArray.empty y105 (wrap64 (Int.tmod (IntKind.u64.wrap (a0)) 7))).size + (rdOf ByteArray.empty y105 (wrap64 (Int.tmod (IntKind.u64.wrap (a0)) 7))).size ≤ 9223372036854775807 then (if t116.toList = ((rdOf ByteArray.empty y105 (wrap64 (Int.tmod (IntKind.u64.wrap (a0)) 7))) ++ (rdOf ByteArray.empty y105 (wrap64 (Int.tmod (IntKind.u64.wrap (a0)) 7)))).toList then (if 1 + (1 + (rdOf ByteArray.empty y102 (wrap64 (Int.tmod (IntKind.u64.wrap (a0)) 7))).size) ≤ 9223372036854775807 then (if 1 + (1 + (rdOf ByteArray.empty y102 (wrap64 (Int.tmod (IntKind.u64.wrap (a0)) 7))).size) + 1 ≤ 9223372036854775807 then ((refs_Encode.f a1).bind fun t119 => (if 1 + (1 + (rdOf ByteArray.empty y102 (wrap64 (Int.tmod (IntKind.u64.wrap (a0)) 7))).size) + 1 + t119.size ≤ 9223372036854775807 then ((refs_Decode.f ((((⟨#[120]⟩ : ByteArray) ++ ((⟨#[38]⟩ : ByteArray) ++ (rdOf ByteArray.empty y102 (wrap64 (Int.tmod (IntKind.u64.wrap (a0)) 7))))) ++ (⟨#[59]⟩ : ByteArray)) ++ t119)).bind fun t120 => (if 1 + (rdOf ByteArray.empty y105 (wrap64 (Int.tmod (IntKind.u64.wrap (a0)) 7))).size ≤ 9223372036854775807 then ((stoleref1_Norm.f k a1).bind fun t122 => (if 1 + (rdOf ByteArray.empty y105 (wrap64 (Int.tmod (IntKind.u64.wrap (a0)) 7))).size + t122.size ≤ 9223372036854775807 then (some (t120.toList == (((⟨#[120]⟩ : ByteArray) ++ (rdOf ByteArray.empty y105 (wrap64 (Int.tmod (IntKind.u64.wrap (a0)) 7)))) ++ t122).toList)) else (none))) else (none))) else (none))) else (none)) else (none)) else (some false)) else (none))) else (none)) else (none)) else (some false))) else (none)) else (none)) else (some false))) else (none)) else (some false))) else (some false)) else (none))) else (none)) else (none)) else (none)) else (none)) = some r := by first | (rw [hy105]; with_reducible exact H) | (have H2_ := (Option.bind_some _ _).symm.trans H; rw [hy105]; with_reducible exact H2_) | (have H2_ := (Option.bind_some _ _).symm.trans H; with_reducible exact H2_) | with_reducible exact H | (rw [hy105]; exact H) | exact H
  have Ny105 := Aside0.mk hy105
  clear hy105
  obtain ⟨ji5, hji5⟩ : ∃ j_ : Int, (wrap64 (Int.tmod (IntKind.u64.wrap (a0)) 7)) = j_ := ⟨_, rfl⟩
  replace H : (if 0 ≤ (ji5) then (if (ji5) < (y102.length : Int) then (if 1 + (rdOf ByteArray.empty y102 (ji5)).size ≤ 9223372036854775807 then (if 1 + (rdOf ByteArray.empty y102 (ji5)).size + 1 ≤ 9223372036854775807 then ((refs_Decode.f (((⟨#[38]⟩ : ByteArray) ++ (rdOf ByteArray.empty y102 (ji5))) ++ (⟨#[59]⟩ : ByteArray))).bind fun t109 => (if (ji5) < (y105.length : Int) then (if t109.toList = (rdOf ByteArray.empty y105 (ji5)).toList then ((refs_Decode.f ((⟨#[38]⟩ : ByteArray) ++ (rdOf ByteArray.empty y102 (ji5)))).bind fun t111 => (if t111.toList = ((⟨#[38]⟩ : ByteArray) ++ (rdOf ByteArray.empty y102 (ji5))).toList then (if 1 + (rdOf ByteArray.empty y102 (ji5)).size + 2 ≤ 9223372036854775807 then ((refs_Decode.f (((⟨#[38]⟩ : ByteArray) ++ (rdOf ByteArray.empty y102 (ji5))) ++ (⟨#[32, 59]⟩ : ByteArray))).bind fun t112 => (if t112.toList = (((⟨#[38]⟩ : ByteArray) ++ (rdOf ByteArray.empty y102 (ji5))) ++ (⟨#[32, 59]⟩ : ByteArray)).toList then (if 2 + (rdOf ByteArray.empty y102 (ji5)).size ≤ 9223372036854775807 then (if 2 + (rdOf ByteArray.empty y102 (ji5)).size + 1 ≤ 9223372036854775807 then ((refs_Decode.f (((⟨#[38, 65]⟩ : ByteArray) ++ (rdOf ByteArray.empty y102 (ji5))) ++ (⟨#[59]⟩ : ByteArray))).bind fun t114 => (if t114.toList = (((⟨#[38, 65]⟩ : ByteArray) ++ (rdOf ByteArray.empty y102 (ji5))) ++ (⟨#[59]⟩ : ByteArray)).toList then (if 1 + (rdOf ByteArray.empty y102 (ji5)).size + 1 + (1 + (rdOf ByteArray.empty y102 (ji5)).size) ≤ 9223372036854775807 then (if 1 + (rdOf ByteArray.empty y102 (ji5)).size + 1 + (1 + (rdOf ByteArray.empty y102 (ji5)).size) + 1 ≤ 9223372036854775807 then ((refs_Decode.f (((((⟨#[38]⟩ : ByteArray) ++ (rdOf ByteArray.empty y102 (ji5))) ++ (⟨#[59]⟩ : ByteArray)) ++ ((⟨#[38]⟩ : ByteArray) ++ (rdOf ByteArray.empty y102 (ji5)))) ++ (⟨#[59]⟩ : ByteArray))).bind fun t116 => (if (rdOf ByteArray.empty y105 (ji5)).size + (rdOf ByteArray.empty y105 (ji5)).size ≤ 9223372036854775807 then (if t116.toList = ((rdOf ByteArray.empty y105 (ji5)) ++ (rdOf ByteArray.empty y105 (ji5))).toList then (if 1 + (1 + (rdOf ByteArray.empty y102 (ji5)).size) ≤ 9223372036854775807 then (if 1 + (1 + (rdOf ByteArray.empty y102 (ji5)).size) + 1 ≤ 9223372036854775807 then ((refs_Encode.f a1).bind fun t119 => (if 1 + (1 + (rdOf ByteArray.empty y102 (ji5)).size) + 1 + t119.size ≤ 9223372036854775807 then ((refs_Decode.f ((((⟨#[120]⟩ : ByteArray) ++ ((⟨#[38]⟩ : ByteArray) ++ (rdOf ByteArray.empty y102 (ji5)))) ++ (⟨#[59]⟩ : ByteArray)) ++ t119)).bind fun t120 => (if 1 + (rdOf ByteArray.empty y105 (ji5)).size ≤ 9223372036854775807 then ((stoleref1_Norm.f k a1).bind fun t122 => (if 1 + (rdOf ByteArray.empty y105 (ji5)).size + t122.size ≤ 9223372036854775807 then (some (t120.toList == (((⟨#[120]⟩ : ByteArray) ++ (rdOf ByteArray.empty y105 (ji5))) ++ t122).toList)) else (none))) else (none))) else (none))) else (none)) else (none)) else (some false)) else (none))) else (none)) else (none)) else (some false))) else (none)) else (none)) else (some false))) else (none)) else (some false))) else (some false)) else (none))) else (none)) else (none)) else (none)) else (none)) = some r := by first | (rw [hji5] at H; exact H) | (simp only [hji5] at H ⊢; exact H)
  (try rw [hji5] at A3)
  have hji5w : (IntKind.i64.wrap (Int.tmod (IntKind.u64.wrap (a0)) 7)) = ji5 := (i64_w _).trans hji5
  by_cases c6 : 0 ≤ (ji5)
  ·rw [if_pos c6] at H
   have c6b0 : decide (0 ≤ (ji5)) = true := decide_eq_true c6
   clear c6
   by_cases c7 : (ji5) < (y102.length : Int)
   ·rw [if_pos c7] at H
    have c7b0 : decide ((ji5) < (y102.length : Int)) = true := decide_eq_true c7
    clear c7
    by_cases c8 : 1 + (rdOf ByteArray.empty y102 (ji5)).size ≤ 9223372036854775807
    ·rw [if_pos c8] at H
     have c8b0 := eq_true c8
     have c8b1 : decide (1 + (rdOf ByteArray.empty y102 (ji5)).size ≤ 9223372036854775807) = true := decide_eq_true c8
     try have c8b2 : (9223372036854775807 < 1 + (rdOf ByteArray.empty y102 (ji5)).size) = False := eq_false (Nat.not_lt.2 c8)
     by_cases c9 : 1 + (rdOf ByteArray.empty y102 (ji5)).size + 1 ≤ 9223372036854775807
     ·rw [if_pos c9] at H
      have c9b0 := eq_true c9
      have c9b1 : decide (1 + (rdOf ByteArray.empty y102 (ji5)).size + 1 ≤ 9223372036854775807) = true := decide_eq_true c9
      try have c9b2 : (9223372036854775807 < 1 + (rdOf ByteArray.empty y102 (ji5)).size + 1) = False := eq_false (Nat.not_lt.2 c9)
      replace H := Option.bind_eq_some_iff.mp H
      obtain ⟨t109, A100, H⟩ := H
      replace H : (if (ji5) < (y105.length : Int) then (if t109.toList = (rdOf ByteArray.empty y105 (ji5)).toList then ((refs_Decode.f ((⟨#[38]⟩ : ByteArray) ++ (rdOf ByteArray.empty y102 (ji5)))).bind fun t111 => (if t111.toList = ((⟨#[38]⟩ : ByteArray) ++ (rdOf ByteArray.empty y102 (ji5))).toList then (if 1 + (rdOf ByteArray.empty y102 (ji5)).size + 2 ≤ 9223372036854775807 then ((refs_Decode.f (((⟨#[38]⟩ : ByteArray) ++ (rdOf ByteArray.empty y102 (ji5))) ++ (⟨#[32, 59]⟩ : ByteArray))).bind fun t112 => (if t112.toList = (((⟨#[38]⟩ : ByteArray) ++ (rdOf ByteArray.empty y102 (ji5))) ++ (⟨#[32, 59]⟩ : ByteArray)).toList then (if 2 + (rdOf ByteArray.empty y102 (ji5)).size ≤ 9223372036854775807 then (if 2 + (rdOf ByteArray.empty y102 (ji5)).size + 1 ≤ 9223372036854775807 then ((refs_Decode.f (((⟨#[38, 65]⟩ : ByteArray) ++ (rdOf ByteArray.empty y102 (ji5))) ++ (⟨#[59]⟩ : ByteArray))).bind fun t114 => (if t114.toList = (((⟨#[38, 65]⟩ : ByteArray) ++ (rdOf ByteArray.empty y102 (ji5))) ++ (⟨#[59]⟩ : ByteArray)).toList then (if 1 + (rdOf ByteArray.empty y102 (ji5)).size + 1 + (1 + (rdOf ByteArray.empty y102 (ji5)).size) ≤ 9223372036854775807 then (if 1 + (rdOf ByteArray.empty y102 (ji5)).size + 1 + (1 + (rdOf ByteArray.empty y102 (ji5)).size) + 1 ≤ 9223372036854775807 then ((refs_Decode.f (((((⟨#[38]⟩ : ByteArray) ++ (rdOf ByteArray.empty y102 (ji5))) ++ (⟨#[59]⟩ : ByteArray)) ++ ((⟨#[38]⟩ : ByteArray) ++ (rdOf ByteArray.empty y102 (ji5)))) ++ (⟨#[59]⟩ : ByteArray))).bind fun t116 => (if (rdOf ByteArray.empty y105 (ji5)).size + (rdOf ByteArray.empty y105 (ji5)).size ≤ 9223372036854775807 then (if t116.toList = ((rdOf ByteArray.empty y105 (ji5)) ++ (rdOf ByteArray.empty y105 (ji5))).toList then (if 1 + (1 + (rdOf ByteArray.empty y102 (ji5)).size) ≤ 9223372036854775807 then (if 1 + (1 + (rdOf ByteArray.empty y102 (ji5)).size) + 1 ≤ 9223372036854775807 then ((refs_Encode.f a1).bind fun t119 => (if 1 + (1 + (rdOf ByteArray.empty y102 (ji5)).size) + 1 + t119.size ≤ 9223372036854775807 then ((refs_Decode.f ((((⟨#[120]⟩ : ByteArray) ++ ((⟨#[38]⟩ : ByteArray) ++ (rdOf ByteArray.empty y102 (ji5)))) ++ (⟨#[59]⟩ : ByteArray)) ++ t119)).bind fun t120 => (if 1 + (rdOf ByteArray.empty y105 (ji5)).size ≤ 9223372036854775807 then ((stoleref1_Norm.f k a1).bind fun t122 => (if 1 + (rdOf ByteArray.empty y105 (ji5)).size + t122.size ≤ 9223372036854775807 then (some (t120.toList == (((⟨#[120]⟩ : ByteArray) ++ (rdOf ByteArray.empty y105 (ji5))) ++ t122).toList)) else (none))) else (none))) else (none))) else (none)) else (none)) else (some false)) else (none))) else (none)) else (none)) else (some false))) else (none)) else (none)) else (some false))) else (none)) else (some false))) else (some false)) else (none)) = some r := H
      have A10 := Aside0.mk A100
      clear A100
      by_cases c11 : (ji5) < (y105.length : Int)
      ·rw [if_pos c11] at H
       have c11b0 : decide ((ji5) < (y105.length : Int)) = true := decide_eq_true c11
       clear c11
       by_cases c12 : t109.toList = (rdOf ByteArray.empty y105 (ji5)).toList
       ·rw [if_pos c12] at H
        have c12b0 : (t109.toList == (rdOf ByteArray.empty y105 (ji5)).toList) = true := beq_iff_eq.mpr c12
        have c12b1 : (t109.toList != (rdOf ByteArray.empty y105 (ji5)).toList) = false := bne_eq_false_iff_eq.mpr c12
        clear c12
        replace H := Option.bind_eq_some_iff.mp H
        obtain ⟨t111, A130, H⟩ := H
        replace H : (if t111.toList = ((⟨#[38]⟩ : ByteArray) ++ (rdOf ByteArray.empty y102 (ji5))).toList then (if 1 + (rdOf ByteArray.empty y102 (ji5)).size + 2 ≤ 9223372036854775807 then ((refs_Decode.f (((⟨#[38]⟩ : ByteArray) ++ (rdOf ByteArray.empty y102 (ji5))) ++ (⟨#[32, 59]⟩ : ByteArray))).bind fun t112 => (if t112.toList = (((⟨#[38]⟩ : ByteArray) ++ (rdOf ByteArray.empty y102 (ji5))) ++ (⟨#[32, 59]⟩ : ByteArray)).toList then (if 2 + (rdOf ByteArray.empty y102 (ji5)).size ≤ 9223372036854775807 then (if 2 + (rdOf ByteArray.empty y102 (ji5)).size + 1 ≤ 9223372036854775807 then ((refs_Decode.f (((⟨#[38, 65]⟩ : ByteArray) ++ (rdOf ByteArray.empty y102 (ji5))) ++ (⟨#[59]⟩ : ByteArray))).bind fun t114 => (if t114.toList = (((⟨#[38, 65]⟩ : ByteArray) ++ (rdOf ByteArray.empty y102 (ji5))) ++ (⟨#[59]⟩ : ByteArray)).toList then (if 1 + (rdOf ByteArray.empty y102 (ji5)).size + 1 + (1 + (rdOf ByteArray.empty y102 (ji5)).size) ≤ 9223372036854775807 then (if 1 + (rdOf ByteArray.empty y102 (ji5)).size + 1 + (1 + (rdOf ByteArray.empty y102 (ji5)).size) + 1 ≤ 9223372036854775807 then ((refs_Decode.f (((((⟨#[38]⟩ : ByteArray) ++ (rdOf ByteArray.empty y102 (ji5))) ++ (⟨#[59]⟩ : ByteArray)) ++ ((⟨#[38]⟩ : ByteArray) ++ (rdOf ByteArray.empty y102 (ji5)))) ++ (⟨#[59]⟩ : ByteArray))).bind fun t116 => (if (rdOf ByteArray.empty y105 (ji5)).size + (rdOf ByteArray.empty y105 (ji5)).size ≤ 9223372036854775807 then (if t116.toList = ((rdOf ByteArray.empty y105 (ji5)) ++ (rdOf ByteArray.empty y105 (ji5))).toList then (if 1 + (1 + (rdOf ByteArray.empty y102 (ji5)).size) ≤ 9223372036854775807 then (if 1 + (1 + (rdOf ByteArray.empty y102 (ji5)).size) + 1 ≤ 9223372036854775807 then ((refs_Encode.f a1).bind fun t119 => (if 1 + (1 + (rdOf ByteArray.empty y102 (ji5)).size) + 1 + t119.size ≤ 9223372036854775807 then ((refs_Decode.f ((((⟨#[120]⟩ : ByteArray) ++ ((⟨#[38]⟩ : ByteArray) ++ (rdOf ByteArray.empty y102 (ji5)))) ++ (⟨#[59]⟩ : ByteArray)) ++ t119)).bind fun t120 => (if 1 + (rdOf ByteArray.empty y105 (ji5)).size ≤ 9223372036854775807 then ((stoleref1_Norm.f k a1).bind fun t122 => (if 1 + (rdOf ByteArray.empty y105 (ji5)).size + t122.size ≤ 9223372036854775807 then (some (t120.toList == (((⟨#[120]⟩ : ByteArray) ++ (rdOf ByteArray.empty y105 (ji5))) ++ t122).toList)) else (none))) else (none))) else (none))) else (none)) else (none)) else (some false)) else (none))) else (none)) else (none)) else (some false))) else (none)) else (none)) else (some false))) else (none)) else (some false)) = some r := H
        have A13 := Aside0.mk A130
        clear A130
        by_cases c14 : t111.toList = ((⟨#[38]⟩ : ByteArray) ++ (rdOf ByteArray.empty y102 (ji5))).toList
        ·rw [if_pos c14] at H
         have c14b0 : (t111.toList == ((⟨#[38]⟩ : ByteArray) ++ (rdOf ByteArray.empty y102 (ji5))).toList) = true := beq_iff_eq.mpr c14
         have c14b1 : (t111.toList != ((⟨#[38]⟩ : ByteArray) ++ (rdOf ByteArray.empty y102 (ji5))).toList) = false := bne_eq_false_iff_eq.mpr c14
         clear c14
         by_cases c15 : 1 + (rdOf ByteArray.empty y102 (ji5)).size + 2 ≤ 9223372036854775807
         ·rw [if_pos c15] at H
          have c15b0 := eq_true c15
          have c15b1 : decide (1 + (rdOf ByteArray.empty y102 (ji5)).size + 2 ≤ 9223372036854775807) = true := decide_eq_true c15
          try have c15b2 : (9223372036854775807 < 1 + (rdOf ByteArray.empty y102 (ji5)).size + 2) = False := eq_false (Nat.not_lt.2 c15)
          replace H := Option.bind_eq_some_iff.mp H
          obtain ⟨t112, A160, H⟩ := H
          replace H : (if t112.toList = (((⟨#[38]⟩ : ByteArray) ++ (rdOf ByteArray.empty y102 (ji5))) ++ (⟨#[32, 59]⟩ : ByteArray)).toList then (if 2 + (rdOf ByteArray.empty y102 (ji5)).size ≤ 9223372036854775807 then (if 2 + (rdOf ByteArray.empty y102 (ji5)).size + 1 ≤ 9223372036854775807 then ((refs_Decode.f (((⟨#[38, 65]⟩ : ByteArray) ++ (rdOf ByteArray.empty y102 (ji5))) ++ (⟨#[59]⟩ : ByteArray))).bind fun t114 => (if t114.toList = (((⟨#[38, 65]⟩ : ByteArray) ++ (rdOf ByteArray.empty y102 (ji5))) ++ (⟨#[59]⟩ : ByteArray)).toList then (if 1 + (rdOf ByteArray.empty y102 (ji5)).size + 1 + (1 + (rdOf ByteArray.empty y102 (ji5)).size) ≤ 9223372036854775807 then (if 1 + (rdOf ByteArray.empty y102 (ji5)).size + 1 + (1 + (rdOf ByteArray.empty y102 (ji5)).size) + 1 ≤ 9223372036854775807 then ((refs_Decode.f (((((⟨#[38]⟩ : ByteArray) ++ (rdOf ByteArray.empty y102 (ji5))) ++ (⟨#[59]⟩ : ByteArray)) ++ ((⟨#[38]⟩ : ByteArray) ++ (rdOf ByteArray.empty y102 (ji5)))) ++ (⟨#[59]⟩ : ByteArray))).bind fun t116 => (if (rdOf ByteArray.empty y105 (ji5)).size + (rdOf ByteArray.empty y105 (ji5)).size ≤ 9223372036854775807 then (if t116.toList = ((rdOf ByteArray.empty y105 (ji5)) ++ (rdOf ByteArray.empty y105 (ji5))).toList then (if 1 + (1 + (rdOf ByteArray.empty y102 (ji5)).size) ≤ 9223372036854775807 then (if 1 + (1 + (rdOf ByteArray.empty y102 (ji5)).size) + 1 ≤ 9223372036854775807 then ((refs_Encode.f a1).bind fun t119 => (if 1 + (1 + (rdOf ByteArray.empty y102 (ji5)).size) + 1 + t119.size ≤ 9223372036854775807 then ((refs_Decode.f ((((⟨#[120]⟩ : ByteArray) ++ ((⟨#[38]⟩ : ByteArray) ++ (rdOf ByteArray.empty y102 (ji5)))) ++ (⟨#[59]⟩ : ByteArray)) ++ t119)).bind fun t120 => (if 1 + (rdOf ByteArray.empty y105 (ji5)).size ≤ 9223372036854775807 then ((stoleref1_Norm.f k a1).bind fun t122 => (if 1 + (rdOf ByteArray.empty y105 (ji5)).size + t122.size ≤ 9223372036854775807 then (some (t120.toList == (((⟨#[120]⟩ : ByteArray) ++ (rdOf ByteArray.empty y105 (ji5))) ++ t122).toList)) else (none))) else (none))) else (none))) else (none)) else (none)) else (some false)) else (none))) else (none)) else (none)) else (some false))) else (none)) else (none)) else (some false)) = some r := H
          have A16 := Aside0.mk A160
          clear A160
          by_cases c17 : t112.toList = (((⟨#[38]⟩ : ByteArray) ++ (rdOf ByteArray.empty y102 (ji5))) ++ (⟨#[32, 59]⟩ : ByteArray)).toList
          ·rw [if_pos c17] at H
           have c17b0 : (t112.toList == (((⟨#[38]⟩ : ByteArray) ++ (rdOf ByteArray.empty y102 (ji5))) ++ (⟨#[32, 59]⟩ : ByteArray)).toList) = true := beq_iff_eq.mpr c17
           have c17b1 : (t112.toList != (((⟨#[38]⟩ : ByteArray) ++ (rdOf ByteArray.empty y102 (ji5))) ++ (⟨#[32, 59]⟩ : ByteArray)).toList) = false := bne_eq_false_iff_eq.mpr c17
           clear c17
           by_cases c18 : 2 + (rdOf ByteArray.empty y102 (ji5)).size ≤ 9223372036854775807
           ·rw [if_pos c18] at H
            have c18b0 := eq_true c18
            have c18b1 : decide (2 + (rdOf ByteArray.empty y102 (ji5)).size ≤ 9223372036854775807) = true := decide_eq_true c18
            try have c18b2 : (9223372036854775807 < 2 + (rdOf ByteArray.empty y102 (ji5)).size) = False := eq_false (Nat.not_lt.2 c18)
            by_cases c19 : 2 + (rdOf ByteArray.empty y102 (ji5)).size + 1 ≤ 9223372036854775807
            ·rw [if_pos c19] at H
             have c19b0 := eq_true c19
             have c19b1 : decide (2 + (rdOf ByteArray.empty y102 (ji5)).size + 1 ≤ 9223372036854775807) = true := decide_eq_true c19
             try have c19b2 : (9223372036854775807 < 2 + (rdOf ByteArray.empty y102 (ji5)).size + 1) = False := eq_false (Nat.not_lt.2 c19)
             replace H := Option.bind_eq_some_iff.mp H
             obtain ⟨t114, A200, H⟩ := H
             replace H : (if t114.toList = (((⟨#[38, 65]⟩ : ByteArray) ++ (rdOf ByteArray.empty y102 (ji5))) ++ (⟨#[59]⟩ : ByteArray)).toList then (if 1 + (rdOf ByteArray.empty y102 (ji5)).size + 1 + (1 + (rdOf ByteArray.empty y102 (ji5)).size) ≤ 9223372036854775807 then (if 1 + (rdOf ByteArray.empty y102 (ji5)).size + 1 + (1 + (rdOf ByteArray.empty y102 (ji5)).size) + 1 ≤ 9223372036854775807 then ((refs_Decode.f (((((⟨#[38]⟩ : ByteArray) ++ (rdOf ByteArray.empty y102 (ji5))) ++ (⟨#[59]⟩ : ByteArray)) ++ ((⟨#[38]⟩ : ByteArray) ++ (rdOf ByteArray.empty y102 (ji5)))) ++ (⟨#[59]⟩ : ByteArray))).bind fun t116 => (if (rdOf ByteArray.empty y105 (ji5)).size + (rdOf ByteArray.empty y105 (ji5)).size ≤ 9223372036854775807 then (if t116.toList = ((rdOf ByteArray.empty y105 (ji5)) ++ (rdOf ByteArray.empty y105 (ji5))).toList then (if 1 + (1 + (rdOf ByteArray.empty y102 (ji5)).size) ≤ 9223372036854775807 then (if 1 + (1 + (rdOf ByteArray.empty y102 (ji5)).size) + 1 ≤ 9223372036854775807 then ((refs_Encode.f a1).bind fun t119 => (if 1 + (1 + (rdOf ByteArray.empty y102 (ji5)).size) + 1 + t119.size ≤ 9223372036854775807 then ((refs_Decode.f ((((⟨#[120]⟩ : ByteArray) ++ ((⟨#[38]⟩ : ByteArray) ++ (rdOf ByteArray.empty y102 (ji5)))) ++ (⟨#[59]⟩ : ByteArray)) ++ t119)).bind fun t120 => (if 1 + (rdOf ByteArray.empty y105 (ji5)).size ≤ 9223372036854775807 then ((stoleref1_Norm.f k a1).bind fun t122 => (if 1 + (rdOf ByteArray.empty y105 (ji5)).size + t122.size ≤ 9223372036854775807 then (some (t120.toList == (((⟨#[120]⟩ : ByteArray) ++ (rdOf ByteArray.empty y105 (ji5))) ++ t122).toList)) else (none))) else (none))) else (none))) else (none)) else (none)) else (some false)) else (none))) else (none)) else (none)) else (some false)) = some r := H
             have A20 := Aside0.mk A200
             clear A200
             by_cases c21 : t114.toList = (((⟨#[38, 65]⟩ : ByteArray) ++ (rdOf ByteArray.empty y102 (ji5))) ++ (⟨#[59]⟩ : ByteArray)).toList
             ·rw [if_pos c21] at H
              have c21b0 : (t114.toList == (((⟨#[38, 65]⟩ : ByteArray) ++ (rdOf ByteArray.empty y102 (ji5))) ++ (⟨#[59]⟩ : ByteArray)).toList) = true := beq_iff_eq.mpr c21
              have c21b1 : (t114.toList != (((⟨#[38, 65]⟩ : ByteArray) ++ (rdOf ByteArray.empty y102 (ji5))) ++ (⟨#[59]⟩ : ByteArray)).toList) = false := bne_eq_false_iff_eq.mpr c21
              clear c21
              by_cases c22 : 1 + (rdOf ByteArray.empty y102 (ji5)).size + 1 + (1 + (rdOf ByteArray.empty y102 (ji5)).size) ≤ 9223372036854775807
              ·rw [if_pos c22] at H
               have c22b0 := eq_true c22
               have c22b1 : decide (1 + (rdOf ByteArray.empty y102 (ji5)).size + 1 + (1 + (rdOf ByteArray.empty y102 (ji5)).size) ≤ 9223372036854775807) = true := decide_eq_true c22
               try have c22b2 : (9223372036854775807 < 1 + (rdOf ByteArray.empty y102 (ji5)).size + 1 + (1 + (rdOf ByteArray.empty y102 (ji5)).size)) = False := eq_false (Nat.not_lt.2 c22)
               by_cases c23 : 1 + (rdOf ByteArray.empty y102 (ji5)).size + 1 + (1 + (rdOf ByteArray.empty y102 (ji5)).size) + 1 ≤ 9223372036854775807
               ·rw [if_pos c23] at H
                have c23b0 := eq_true c23
                have c23b1 : decide (1 + (rdOf ByteArray.empty y102 (ji5)).size + 1 + (1 + (rdOf ByteArray.empty y102 (ji5)).size) + 1 ≤ 9223372036854775807) = true := decide_eq_true c23
                try have c23b2 : (9223372036854775807 < 1 + (rdOf ByteArray.empty y102 (ji5)).size + 1 + (1 + (rdOf ByteArray.empty y102 (ji5)).size) + 1) = False := eq_false (Nat.not_lt.2 c23)
                replace H := Option.bind_eq_some_iff.mp H
                obtain ⟨t116, A240, H⟩ := H
                replace H : (if (rdOf ByteArray.empty y105 (ji5)).size + (rdOf ByteArray.empty y105 (ji5)).size ≤ 9223372036854775807 then (if t116.toList = ((rdOf ByteArray.empty y105 (ji5)) ++ (rdOf ByteArray.empty y105 (ji5))).toList then (if 1 + (1 + (rdOf ByteArray.empty y102 (ji5)).size) ≤ 9223372036854775807 then (if 1 + (1 + (rdOf ByteArray.empty y102 (ji5)).size) + 1 ≤ 9223372036854775807 then ((refs_Encode.f a1).bind fun t119 => (if 1 + (1 + (rdOf ByteArray.empty y102 (ji5)).size) + 1 + t119.size ≤ 9223372036854775807 then ((refs_Decode.f ((((⟨#[120]⟩ : ByteArray) ++ ((⟨#[38]⟩ : ByteArray) ++ (rdOf ByteArray.empty y102 (ji5)))) ++ (⟨#[59]⟩ : ByteArray)) ++ t119)).bind fun t120 => (if 1 + (rdOf ByteArray.empty y105 (ji5)).size ≤ 9223372036854775807 then ((stoleref1_Norm.f k a1).bind fun t122 => (if 1 + (rdOf ByteArray.empty y105 (ji5)).size + t122.size ≤ 9223372036854775807 then (some (t120.toList == (((⟨#[120]⟩ : ByteArray) ++ (rdOf ByteArray.empty y105 (ji5))) ++ t122).toList)) else (none))) else (none))) else (none))) else (none)) else (none)) else (some false)) else (none)) = some r := H
                have A24 := Aside0.mk A240
                clear A240
                by_cases c25 : (rdOf ByteArray.empty y105 (ji5)).size + (rdOf ByteArray.empty y105 (ji5)).size ≤ 9223372036854775807
                ·rw [if_pos c25] at H
                 have c25b0 := eq_true c25
                 have c25b1 : decide ((rdOf ByteArray.empty y105 (ji5)).size + (rdOf ByteArray.empty y105 (ji5)).size ≤ 9223372036854775807) = true := decide_eq_true c25
                 try have c25b2 : (9223372036854775807 < (rdOf ByteArray.empty y105 (ji5)).size + (rdOf ByteArray.empty y105 (ji5)).size) = False := eq_false (Nat.not_lt.2 c25)
                 by_cases c26 : t116.toList = ((rdOf ByteArray.empty y105 (ji5)) ++ (rdOf ByteArray.empty y105 (ji5))).toList
                 ·rw [if_pos c26] at H
                  have c26b0 : (t116.toList == ((rdOf ByteArray.empty y105 (ji5)) ++ (rdOf ByteArray.empty y105 (ji5))).toList) = true := beq_iff_eq.mpr c26
                  have c26b1 : (t116.toList != ((rdOf ByteArray.empty y105 (ji5)) ++ (rdOf ByteArray.empty y105 (ji5))).toList) = false := bne_eq_false_iff_eq.mpr c26
                  clear c26
                  by_cases c27 : 1 + (1 + (rdOf ByteArray.empty y102 (ji5)).size) ≤ 9223372036854775807
                  ·rw [if_pos c27] at H
                   have c27b0 := eq_true c27
                   have c27b1 : decide (1 + (1 + (rdOf ByteArray.empty y102 (ji5)).size) ≤ 9223372036854775807) = true := decide_eq_true c27
                   try have c27b2 : (9223372036854775807 < 1 + (1 + (rdOf ByteArray.empty y102 (ji5)).size)) = False := eq_false (Nat.not_lt.2 c27)
                   by_cases c28 : 1 + (1 + (rdOf ByteArray.empty y102 (ji5)).size) + 1 ≤ 9223372036854775807
                   ·rw [if_pos c28] at H
                    have c28b0 := eq_true c28
                    have c28b1 : decide (1 + (1 + (rdOf ByteArray.empty y102 (ji5)).size) + 1 ≤ 9223372036854775807) = true := decide_eq_true c28
                    try have c28b2 : (9223372036854775807 < 1 + (1 + (rdOf ByteArray.empty y102 (ji5)).size) + 1) = False := eq_false (Nat.not_lt.2 c28)
                    replace H := Option.bind_eq_some_iff.mp H
                    obtain ⟨t119, A290, H⟩ := H
                    replace H : (if 1 + (1 + (rdOf ByteArray.empty y102 (ji5)).size) + 1 + t119.size ≤ 9223372036854775807 then ((refs_Decode.f ((((⟨#[120]⟩ : ByteArray) ++ ((⟨#[38]⟩ : ByteArray) ++ (rdOf ByteArray.empty y102 (ji5)))) ++ (⟨#[59]⟩ : ByteArray)) ++ t119)).bind fun t120 => (if 1 + (rdOf ByteArray.empty y105 (ji5)).size ≤ 9223372036854775807 then ((stoleref1_Norm.f k a1).bind fun t122 => (if 1 + (rdOf ByteArray.empty y105 (ji5)).size + t122.size ≤ 9223372036854775807 then (some (t120.toList == (((⟨#[120]⟩ : ByteArray) ++ (rdOf ByteArray.empty y105 (ji5))) ++ t122).toList)) else (none))) else (none))) else (none)) = some r := H
                    have A29 := Aside0.mk A290
                    clear A290
                    by_cases c30 : 1 + (1 + (rdOf ByteArray.empty y102 (ji5)).size) + 1 + t119.size ≤ 9223372036854775807
                    ·rw [if_pos c30] at H
                     have c30b0 := eq_true c30
                     have c30b1 : decide (1 + (1 + (rdOf ByteArray.empty y102 (ji5)).size) + 1 + t119.size ≤ 9223372036854775807) = true := decide_eq_true c30
                     try have c30b2 : (9223372036854775807 < 1 + (1 + (rdOf ByteArray.empty y102 (ji5)).size) + 1 + t119.size) = False := eq_false (Nat.not_lt.2 c30)
                     replace H := Option.bind_eq_some_iff.mp H
                     obtain ⟨t120, A310, H⟩ := H
                     replace H : (if 1 + (rdOf ByteArray.empty y105 (ji5)).size ≤ 9223372036854775807 then ((stoleref1_Norm.f k a1).bind fun t122 => (if 1 + (rdOf ByteArray.empty y105 (ji5)).size + t122.size ≤ 9223372036854775807 then (some (t120.toList == (((⟨#[120]⟩ : ByteArray) ++ (rdOf ByteArray.empty y105 (ji5))) ++ t122).toList)) else (none))) else (none)) = some r := H
                     have A31 := Aside0.mk A310
                     clear A310
                     by_cases c32 : 1 + (rdOf ByteArray.empty y105 (ji5)).size ≤ 9223372036854775807
                     ·rw [if_pos c32] at H
                      have c32b0 := eq_true c32
                      have c32b1 : decide (1 + (rdOf ByteArray.empty y105 (ji5)).size ≤ 9223372036854775807) = true := decide_eq_true c32
                      try have c32b2 : (9223372036854775807 < 1 + (rdOf ByteArray.empty y105 (ji5)).size) = False := eq_false (Nat.not_lt.2 c32)
                      replace H := Option.bind_eq_some_iff.mp H
                      obtain ⟨t122, A330, H⟩ := H
                      replace H : (if 1 + (rdOf ByteArray.empty y105 (ji5)).size + t122.size ≤ 9223372036854775807 then (some (t120.toList == (((⟨#[120]⟩ : ByteArray) ++ (rdOf ByteArray.empty y105 (ji5))) ++ t122).toList)) else (none)) = some r := H
                      have A33 := Aside0.mk A330
                      clear A330
                      by_cases c34 : 1 + (rdOf ByteArray.empty y105 (ji5)).size + t122.size ≤ 9223372036854775807
                      ·rw [if_pos c34] at H
                       have c34b0 := eq_true c34
                       have c34b1 : decide (1 + (rdOf ByteArray.empty y105 (ji5)).size + t122.size ≤ 9223372036854775807) = true := decide_eq_true c34
                       try have c34b2 : (9223372036854775807 < 1 + (rdOf ByteArray.empty y105 (ji5)).size + t122.size) = False := eq_false (Nat.not_lt.2 c34)
                       obtain rfl := Option.some.inj H
                       go_enter Tryd.func6, Tryd.ntmps6
                       try go_wp2_with (first | ((with_reducible refine gate_callee (f := 13) rfl ?_); refine goesL_ (some 9) rfl rfl Tryd.func13 (by kernel_rfl) rfl #[] rfl (by (try simp only [List.map_toArray, List.map_cons, List.map_nil]); first | done | rfl | (simp only [List.length_drop, List.length_take]; rfl)) ?_; (with_reducible refine (stolelaw2_awake.calls  true _ (tabs_below HT.out (by repeat (first | (with_reducible first | exact HB.out | apply below_alloc | apply pw_below_drewN | apply below_drew1) | exact HB.out))) A3.out).mono ?_); rintro e w35 ⟨rfl, hb⟩; refine ⟨_, rfl, ?_⟩; have n0_ := Aside0.mk (below_step (by repeat (first | (with_reducible first | exact HB.out | apply below_alloc | apply pw_below_drewN | apply below_drew1) | exact HB.out)) hb); clear HB; have HB := n0_; clear n0_; (try clear hb); (try clear hb2); (try clear hk); (try clear hi)) | ((with_reducible refine gate_dst (N := 11) rfl ?_); refine Kd.R_lit Kd.string _ 9 ?hg (N := 11) ?hd (xs := ([(⟨#[97, 109, 112]⟩ : ByteArray), (⟨#[108, 116]⟩ : ByteArray), (⟨#[103, 116]⟩ : ByteArray), (⟨#[113, 117, 111, 116]⟩ : ByteArray), (⟨#[97, 112, 111, 115]⟩ : ByteArray), (⟨#[110, 98, 115, 112]⟩ : ByteArray), (⟨#[99, 111, 112, 121]⟩ : ByteArray)] : List ByteArray)) (inner := [.string (⟨#[97, 109, 112]⟩ : ByteArray), .string (⟨#[108, 116]⟩ : ByteArray), .string (⟨#[103, 116]⟩ : ByteArray), .string (⟨#[113, 117, 111, 116]⟩ : ByteArray), .string (⟨#[97, 112, 111, 115]⟩ : ByteArray), .string (⟨#[110, 98, 115, 112]⟩ : ByteArray), .string (⟨#[99, 111, 112, 121]⟩ : ByteArray)]) (ok := fun _ => True) (okp := fun _ => True) ?hr ?hp (fun _ hk => hk) trivial (Below.refl _ _) (Nat.le_refl _) (by simp) ?_; (case hd => rfl); (case hg => rfl); (case hr => first | (go_simp; done) | (go_simp; rfl)); (case hp => exact (Reps.one (show Kd.M Kd.string _ _ _ (⟨#[97, 109, 112]⟩ : ByteArray) [.string (⟨#[97, 109, 112]⟩ : ByteArray)] from rfl) (Reps.one (show Kd.M Kd.string _ _ _ (⟨#[108, 116]⟩ : ByteArray) [.string (⟨#[108, 116]⟩ : ByteArray)] from rfl) (Reps.one (show Kd.M Kd.string _ _ _ (⟨#[103, 116]⟩ : ByteArray) [.string (⟨#[103, 116]⟩ : ByteArray)] from rfl) (Reps.one (show Kd.M Kd.string _ _ _ (⟨#[113, 117, 111, 116]⟩ : ByteArray) [.string (⟨#[113, 117, 111, 116]⟩ : ByteArray)] from rfl) (Reps.one (show Kd.M Kd.string _ _ _ (⟨#[97, 112, 111, 115]⟩ : ByteArray) [.string (⟨#[97, 112, 111, 115]⟩ : ByteArray)] from rfl) (Reps.one (show Kd.M Kd.string _ _ _ (⟨#[110, 98, 115, 112]⟩ : ByteArray) [.string (⟨#[110, 98, 115, 112]⟩ : ByteArray)] from rfl) (Reps.one (show Kd.M Kd.string _ _ _ (⟨#[99, 111, 112, 121]⟩ : ByteArray) [.string (⟨#[99, 111, 112, 121]⟩ : ByteArray)] from rfl) (Reps.none _ _))))))))); intro v103 w36 ho37 hb hg_ hnew_; clear hg_ hnew_; (first | rw [← Ny102.out] at ho37 | (simp only [Int.reduceToNat] at ho37; rw [← Ny102.out] at ho37)); have n0_ := Aside0.mk (Kd.R_lower ho37 (below_size (by repeat (first | (with_reducible first | exact HB.out | apply below_alloc | apply pw_below_drewN | apply below_drew1) | exact HB.out)))); have n1_ := Aside0.mk (below_step (by repeat (first | (with_reducible first | exact HB.out | apply below_alloc | apply pw_below_drewN | apply below_drew1) | exact HB.out)) hb); clear HB; have HO104 := n0_; have HB := n1_; clear n0_ n1_; clear hb ho37) | ((with_reducible refine gate_dst (N := 12) rfl ?_); refine Kd.R_lit Kd.string _ 9 ?hg (N := 12) ?hd (xs := ([(⟨#[38]⟩ : ByteArray), (⟨#[60]⟩ : ByteArray), (⟨#[62]⟩ : ByteArray), (⟨#[34]⟩ : ByteArray), (⟨#[39]⟩ : ByteArray), (⟨#[194, 160]⟩ : ByteArray), (⟨#[194, 169]⟩ : ByteArray)] : List ByteArray)) (inner := [.string (⟨#[38]⟩ : ByteArray), .string (⟨#[60]⟩ : ByteArray), .string (⟨#[62]⟩ : ByteArray), .string (⟨#[34]⟩ : ByteArray), .string (⟨#[39]⟩ : ByteArray), .string (⟨#[194, 160]⟩ : ByteArray), .string (⟨#[194, 169]⟩ : ByteArray)]) (ok := fun _ => True) (okp := fun _ => True) ?hr ?hp (fun _ hk => hk) trivial (Below.refl _ _) (Nat.le_refl _) (by simp) ?_; (case hd => rfl); (case hg => rfl); (case hr => first | (go_simp; done) | (go_simp; rfl)); (case hp => exact (Reps.one (show Kd.M Kd.string _ _ _ (⟨#[38]⟩ : ByteArray) [.string (⟨#[38]⟩ : ByteArray)] from rfl) (Reps.one (show Kd.M Kd.string _ _ _ (⟨#[60]⟩ : ByteArray) [.string (⟨#[60]⟩ : ByteArray)] from rfl) (Reps.one (show Kd.M Kd.string _ _ _ (⟨#[62]⟩ : ByteArray) [.string (⟨#[62]⟩ : ByteArray)] from rfl) (Reps.one (show Kd.M Kd.string _ _ _ (⟨#[34]⟩ : ByteArray) [.string (⟨#[34]⟩ : ByteArray)] from rfl) (Reps.one (show Kd.M Kd.string _ _ _ (⟨#[39]⟩ : ByteArray) [.string (⟨#[39]⟩ : ByteArray)] from rfl) (Reps.one (show Kd.M Kd.string _ _ _ (⟨#[194, 160]⟩ : ByteArray) [.string (⟨#[194, 160]⟩ : ByteArray)] from rfl) (Reps.one (show Kd.M Kd.string _ _ _ (⟨#[194, 169]⟩ : ByteArray) [.string (⟨#[194, 169]⟩ : ByteArray)] from rfl) (Reps.none _ _))))))))); intro v106 w38 ho39 hb hg_ hnew_; clear hg_ hnew_; (first | rw [← Ny105.out] at ho39 | (simp only [Int.reduceToNat] at ho39; rw [← Ny105.out] at ho39)); have n0_ := Aside0.mk (Kd.R_elder' (by (with_reducible repeat (first | apply Kd.R_alloc | apply Kd.R_drewN | apply Kd.R_drew)); exact HO104.out) (Kd.R_base ho39) hb); have n1_ := Aside0.mk (Kd.R_lower (Kd.R_new' ho39 (Kd.R_lt (by (with_reducible repeat (first | apply Kd.R_alloc | apply Kd.R_drewN | apply Kd.R_drew)); exact HO104.out))) (below_size (by repeat (first | (with_reducible first | exact HB.out | apply below_alloc | apply pw_below_drewN | apply below_drew1) | exact HB.out)))); have n2_ := Aside0.mk (below_step (by repeat (first | (with_reducible first | exact HB.out | apply below_alloc | apply pw_below_drewN | apply below_drew1) | exact HB.out)) hb); clear HO104; clear HB; have HO104 := n0_; have HO107 := n1_; have HB := n2_; clear n0_ n1_ n2_; clear hb ho39; obtain ⟨Ao40, co40, eo40⟩ := Kd.R_slice HO104.out; subst eo40; have p108 : 0 ≤ ((ji5) : Int) := of_decide_eq_true (by first | (with_reducible assumption) | assumption); have q108 : (ji5) < (y102.length : Int) := of_decide_eq_true (by first | (with_reducible assumption) | assumption); obtain ⟨ad108, e108, hx108_0⟩ := Kd.at_string (Kd.R_reads' HO104.out).2.2 (ji5) p108 q108; cases e108; replace p108 := eq_true p108; replace q108 := eq_true q108))
                       have n0_ := Aside0.mk (Kd.R_drew HO104.out)
                       have n1_ := Aside0.mk (Kd.R_drew HO107.out)
                       have n2_ := Aside0.mk (below_drew1 HB.out)
                       clear HO104
                       clear HO107
                       clear HB
                       have HO104 := n0_
                       have HO107 := n1_
                       have HB := n2_
                       clear n0_ n1_ n2_
                       obtain ⟨Ao42, co42, eo42⟩ := Kd.R_slice HO107.out
                       (first | subst eo42 | (injection eo42 with f1_ f2_ f3_; have f4_ := f1_.symm; have f5_ := f3_.symm; clear f1_ f2_ f3_; subst f4_; subst f5_))
                       have p110 : 0 ≤ ((ji5) : Int) := of_decide_eq_true (by first | (with_reducible assumption) | assumption)
                       have q110 : (ji5) < (y105.length : Int) := of_decide_eq_true (by first | (with_reducible assumption) | assumption)
                       obtain ⟨ad110, e110, hx110_0⟩ := Kd.at_string (Kd.R_reads' HO107.out).2.2 (ji5) p110 q110
                       cases e110
                       replace p110 := eq_true p110
                       replace q110 := eq_true q110
                       have p113 : 0 ≤ ((ji5) : Int) := of_decide_eq_true (by first | (with_reducible assumption) | assumption)
                       have q113 : (ji5) < (y102.length : Int) := of_decide_eq_true (by first | (with_reducible assumption) | assumption)
                       obtain ⟨ad113, e113, hx113_0⟩ := Kd.at_string (Kd.R_reads' HO104.out).2.2 (ji5) p113 q113
                       obtain rfl : ad108 = ad113 := (by injection e113)
                       replace p113 := eq_true p113
                       replace q113 := eq_true q113
                       have p115 : 0 ≤ ((ji5) : Int) := of_decide_eq_true (by first | (with_reducible assumption) | assumption)
                       have q115 : (ji5) < (y102.length : Int) := of_decide_eq_true (by first | (with_reducible assumption) | assumption)
                       obtain ⟨ad115, e115, hx115_0⟩ := Kd.at_string (Kd.R_reads' HO104.out).2.2 (ji5) p115 q115
                       obtain rfl : ad108 = ad115 := (by injection e115)
                       replace p115 := eq_true p115
                       replace q115 := eq_true q115
                       have p117 : 0 ≤ ((ji5) : Int) := of_decide_eq_true (by first | (with_reducible assumption) | assumption)
                       have q117 : (ji5) < (y105.length : Int) := of_decide_eq_true (by first | (with_reducible assumption) | assumption)
                       obtain ⟨ad117, e117, hx117_0⟩ := Kd.at_string (Kd.R_reads' HO107.out).2.2 (ji5) p117 q117
                       obtain rfl : ad110 = ad117 := (by injection e117)
                       replace p117 := eq_true p117
                       replace q117 := eq_true q117
                       have p118 : 0 ≤ ((ji5) : Int) := of_decide_eq_true (by first | (with_reducible assumption) | assumption)
                       have q118 : (ji5) < (y105.length : Int) := of_decide_eq_true (by first | (with_reducible assumption) | assumption)
                       obtain ⟨ad118, e118, hx118_0⟩ := Kd.at_string (Kd.R_reads' HO107.out).2.2 (ji5) p118 q118
                       obtain rfl : ad110 = ad118 := (by injection e118)
                       replace p118 := eq_true p118
                       replace q118 := eq_true q118
                       have p121 : 0 ≤ ((ji5) : Int) := of_decide_eq_true (by first | (with_reducible assumption) | assumption)
                       have q121 : (ji5) < (y105.length : Int) := of_decide_eq_true (by first | (with_reducible assumption) | assumption)
                       obtain ⟨ad121, e121, hx121_0⟩ := Kd.at_string (Kd.R_reads' HO107.out).2.2 (ji5) p121 q121
                       obtain rfl : ad110 = ad121 := (by injection e121)
                       replace p121 := eq_true p121
                       replace q121 := eq_true q121
                       refine start_ (n := 75) (S := fun w' => w'.cell? (ad110.add ((ji5)).toNat) = some (.string (rdOf ByteArray.empty y105 (ji5))) ∧ w'.cell? (ad108.add ((ji5)).toNat) = some (.string (rdOf ByteArray.empty y102 (ji5))) ∧ w'.cell? (ad108.add ((ji5)).toNat) = some (.string (rdOf ByteArray.empty y102 (ji5))) ∧ w'.cell? (ad110.add ((ji5)).toNat) = some (.string (rdOf ByteArray.empty y105 (ji5))) ∧ w'.cell? (ad110.add ((ji5)).toNat) = some (.string (rdOf ByteArray.empty y105 (ji5))) ∧ w'.cell? (ad110.add ((ji5)).toNat) = some (.string (rdOf ByteArray.empty y105 (ji5)))) (ds := []) #[F,F,F,F,F,F,F,F,F,F,F,F,F,F,F,F,F,F,F,F,F,F,F,F,F,F,F,F,F,F,F,F,F,F,F,F,F,F,F,F,F,F,F,F,F,F,F,F,F,F,F,F,F,F,F,F,F,F,F,F,F,F,F,F,F,F,F,F,F,F,F,F,F,F,F] (by kernel_rfl) rfl rfl ⟨hx110_0, hx113_0, hx115_0, hx117_0, hx118_0, hx121_0⟩ (fun hHeld => ?_); refine with_tabW stolelaw2_RefNames.tab7 stolelaw2_RefNames.bits7 (fun HT_ HW_ => ?_)
                       generalize w38.drew = w41 at HO104 HO107 HB hx110_0 hx113_0 hx115_0 hx117_0 hx118_0 hx121_0 hHeld ⊢
                       refine pure_ (i := 0) (N := some 22) (v := ?_) (a' := ?_) #[T,F,F,F,F,F,F,F,F,F,F,F,F,F,F,F,F,F,F,F,F,F,F,F,F,F,F,F,F,F,F,F,F,F,F,F,F,F,F,F,F,F,F,F,F,F,F,F,F,F,F,F,F,F,F,F,F,F,F,F,F,F,F,F,F,F,F,F,F,F,F,F,F,F,F] rfl rfl (any_of HT_.out (by kernel_rfl)) (fun _ _ _ h => h) (Or.inl ⟨by rfl, ?_⟩) ?_ ?_
                       rotate_left
                       ·intro w'
                        go_simp
                        with_reducible rfl
                       rotate_left
                       ·simp only [Act.put, List.setIfInBounds_toArray, List.set_cons_zero, List.set_cons_succ, i64_w, i32_w]
                        rfl
                       refine pure_ (i := 1) (N := some 23) (v := ?_) (a' := ?_) #[T,T,F,F,F,F,F,F,F,F,F,F,F,F,F,F,F,F,F,F,F,F,F,F,F,F,F,F,F,F,F,F,F,F,F,F,F,F,F,F,F,F,F,F,F,F,F,F,F,F,F,F,F,F,F,F,F,F,F,F,F,F,F,F,F,F,F,F,F,F,F,F,F,F,F] rfl rfl (any_of HT_.out (by kernel_rfl)) (fun _ _ _ h => h) (Or.inl ⟨by rfl, ?_⟩) ?_ ?_
                       rotate_left
                       ·intro w'
                        go_simp
                        with_reducible rfl
                       rotate_left
                       ·simp only [Act.put, List.setIfInBounds_toArray, List.set_cons_zero, List.set_cons_succ, i64_w, i32_w]
                        rfl
                       refine pure_ (i := 3) (N := some 25) (v := ?_) (a' := ?_) #[T,T,F,T,F,F,F,F,F,F,F,F,F,F,F,F,F,F,F,F,F,F,F,F,F,F,F,F,F,F,F,F,F,F,F,F,F,F,F,F,F,F,F,F,F,F,F,F,F,F,F,F,F,F,F,F,F,F,F,F,F,F,F,F,F,F,F,F,F,F,F,F,F,F,F] rfl rfl (any_of HT_.out (by kernel_rfl)) (fun _ _ _ h => h) (Or.inl ⟨by rfl, ?_⟩) ?_ ?_
                       rotate_left
                       ·intro w'
                        go_simp
                        with_reducible rfl
                       rotate_left
                       ·simp only [Act.put, List.setIfInBounds_toArray, List.set_cons_zero, List.set_cons_succ, i64_w, i32_w]
                        rfl
                       refine pure_ (i := 4) (N := some 26) (v := ?_) (a' := ?_) #[T,T,F,T,T,F,F,F,F,F,F,F,F,F,F,F,F,F,F,F,F,F,F,F,F,F,F,F,F,F,F,F,F,F,F,F,F,F,F,F,F,F,F,F,F,F,F,F,F,F,F,F,F,F,F,F,F,F,F,F,F,F,F,F,F,F,F,F,F,F,F,F,F,F,F] rfl rfl (any_of HT_.out (by kernel_rfl)) (fun _ _ _ h => h) (Or.inl ⟨by rfl, ?_⟩) ?_ ?_
                       rotate_left
                       ·intro w'
                        go_simp
                        with_reducible rfl
                       rotate_left
                       ·simp only [Act.put, List.setIfInBounds_toArray, List.set_cons_zero, List.set_cons_succ, i64_w, i32_w]
                        rfl
                       refine pure_ (i := 5) (N := some 27) (v := ?_) (a' := ?_) #[T,T,F,T,T,T,F,F,F,F,F,F,F,F,F,F,F,F,F,F,F,F,F,F,F,F,F,F,F,F,F,F,F,F,F,F,F,F,F,F,F,F,F,F,F,F,F,F,F,F,F,F,F,F,F,F,F,F,F,F,F,F,F,F,F,F,F,F,F,F,F,F,F,F,F] rfl rfl (any_of HT_.out (by kernel_rfl)) (fun _ _ _ h => h) (Or.inl ⟨by rfl, ?_⟩) ?_ ?_
                       rotate_left
                       ·intro w'
                        go_simp
                        with_reducible rfl
                       rotate_left
                       ·simp only [Act.put, List.setIfInBounds_toArray, List.set_cons_zero, List.set_cons_succ, i64_w, i32_w]
                        rfl
                       refine take_ (i := 6) (N := some 28) (v := ?_) (a' := ?_) #[T,T,F,T,T,T,T,F,F,F,F,F,F,F,F,F,F,F,F,F,F,F,F,F,F,F,F,F,F,F,F,F,F,F,F,F,F,F,F,F,F,F,F,F,F,F,F,F,F,F,F,F,F,F,F,F,F,F,F,F,F,F,F,F,F,F,F,F,F,F,F,F,F,F,F] rfl rfl (take_ofW HT_.out HW_.out (by kernel_rfl)) (fun _ _ _ h => h) (Or.inl ⟨by rfl, ?_⟩) hHeld ?_ ?_
                       rotate_left
                       ·rintro w' ⟨s0, s1, s2, s3, s4, s5⟩
                        go_simp
                        with_reducible rfl
                       rotate_left
                       ·simp only [Act.put, List.setIfInBounds_toArray, List.set_cons_zero, List.set_cons_succ, i64_w, i32_w]
                        rfl
                       refine one_ (i := 2) (N := some 24) #[T,T,T,T,T,T,T,F,F,F,F,F,F,F,F,F,F,F,F,F,F,F,F,F,F,F,F,F,F,F,F,F,F,F,F,F,F,F,F,F,F,F,F,F,F,F,F,F,F,F,F,F,F,F,F,F,F,F,F,F,F,F,F,F,F,F,F,F,F,F,F,F,F,F,F] rfl rfl (one_of HT_.out (by kernel_rfl)) (by decide) (fun K hK => ?_)
                       refine goes_ Tryd.func11 (by kernel_rfl) rfl #[.string (((⟨#[38]⟩ : ByteArray) ++ (rdOf ByteArray.empty y102 (ji5))) ++ (⟨#[59]⟩ : ByteArray))] (by rfl) rfl rfl (by (try simp only [List.map_toArray, List.map_cons, List.map_nil]); first | done | (simp only [hji5]; rfl) | rfl | (simp only [List.length_drop, List.length_take]; rfl)) ?_
                       with_reducible refine (refs_Decode.calls (((⟨#[38]⟩ : ByteArray) ++ (rdOf ByteArray.empty y102 (ji5))) ++ (⟨#[59]⟩ : ByteArray)) t109 _ A10.out).mono ?_
                       rintro e w43 ⟨rfl, hb⟩
                       have HS0_ := (hb.cell (World.block_lt_of_cell? _ _ (hHeld.1))).trans (hHeld.1)
                       have HS1_ := (hb.cell (World.block_lt_of_cell? _ _ (hHeld.2.1))).trans (hHeld.2.1)
                       have HS2_ := (hb.cell (World.block_lt_of_cell? _ _ (hHeld.2.2.1))).trans (hHeld.2.2.1)
                       have HS3_ := (hb.cell (World.block_lt_of_cell? _ _ (hHeld.2.2.2.1))).trans (hHeld.2.2.2.1)
                       have HS4_ := (hb.cell (World.block_lt_of_cell? _ _ (hHeld.2.2.2.2.1))).trans (hHeld.2.2.2.2.1)
                       have HS5_ := (hb.cell (World.block_lt_of_cell? _ _ (hHeld.2.2.2.2.2))).trans (hHeld.2.2.2.2.2)
                       refine ⟨_, rfl, ?_⟩
                       have n0_ := Aside0.mk (Kd.R_below (by (with_reducible repeat (first | apply Kd.R_alloc | apply Kd.R_drewN | apply Kd.R_drew)); exact HO104.out) hb)
                       have n1_ := Aside0.mk (Kd.R_below (by (with_reducible repeat (first | apply Kd.R_alloc | apply Kd.R_drewN | apply Kd.R_drew)); exact HO107.out) hb)
                       have n2_ := Aside0.mk (below_step (by repeat (first | (with_reducible first | exact HB.out | apply below_alloc | apply pw_below_drewN | apply below_drew1) | exact HB.out)) hb)
                       clear HO104
                       clear HO107
                       clear HB
                       have HO104 := n0_
                       have HO107 := n1_
                       have HB := n2_
                       clear n0_ n1_ n2_
                       (try clear hb)
                       (try clear hb2)
                       (try clear hk)
                       (try clear hi)
                       refine hK.out _ _ ⟨HS0_, HS1_, HS2_, HS3_, HS4_, HS5_⟩ (fun hHeld => ?_)
                       clear hK K
                       refine norm_ (a' := ?_) ?_ ?_
                       rotate_left
                       ·show Act.put _ (some 24) _ = _
                        simp only [Act.put, List.setIfInBounds_toArray, List.set_cons_zero, List.set_cons_succ, i64_w, i32_w]
                        rfl
                       refine pure_ (i := 7) (N := some 29) (v := ?_) (a' := ?_) #[T,T,T,T,T,T,T,T,F,F,F,F,F,F,F,F,F,F,F,F,F,F,F,F,F,F,F,F,F,F,F,F,F,F,F,F,F,F,F,F,F,F,F,F,F,F,F,F,F,F,F,F,F,F,F,F,F,F,F,F,F,F,F,F,F,F,F,F,F,F,F,F,F,F,F] rfl rfl (any_of HT_.out (by kernel_rfl)) (fun _ _ _ h => h) (Or.inl ⟨by rfl, ?_⟩) ?_ ?_
                       rotate_left
                       ·intro w'
                        go_simp
                        with_reducible rfl
                       rotate_left
                       ·simp only [Act.put, List.setIfInBounds_toArray, List.set_cons_zero, List.set_cons_succ, i64_w, i32_w]
                        rfl
                       refine pure_ (i := 8) (N := some 30) (v := ?_) (a' := ?_) #[T,T,T,T,T,T,T,T,T,F,F,F,F,F,F,F,F,F,F,F,F,F,F,F,F,F,F,F,F,F,F,F,F,F,F,F,F,F,F,F,F,F,F,F,F,F,F,F,F,F,F,F,F,F,F,F,F,F,F,F,F,F,F,F,F,F,F,F,F,F,F,F,F,F,F] rfl rfl (any_of HT_.out (by kernel_rfl)) (fun _ _ _ h => h) (Or.inl ⟨by rfl, ?_⟩) ?_ ?_
                       rotate_left
                       ·intro w'
                        go_simp
                        with_reducible rfl
                       rotate_left
                       ·simp only [Act.put, List.setIfInBounds_toArray, List.set_cons_zero, List.set_cons_succ, i64_w, i32_w]
                        rfl
                       refine pure_ (i := 9) (N := some 31) (v := ?_) (a' := ?_) #[T,T,T,T,T,T,T,T,T,T,F,F,F,F,F,F,F,F,F,F,F,F,F,F,F,F,F,F,F,F,F,F,F,F,F,F,F,F,F,F,F,F,F,F,F,F,F,F,F,F,F,F,F,F,F,F,F,F,F,F,F,F,F,F,F,F,F,F,F,F,F,F,F,F,F] rfl rfl (any_of HT_.out (by kernel_rfl)) (fun _ _ _ h => h) (Or.inl ⟨by rfl, ?_⟩) ?_ ?_
                       rotate_left
                       ·intro w'
                        go_simp
                        with_reducible rfl
                       rotate_left
                       ·simp only [Act.put, List.setIfInBounds_toArray, List.set_cons_zero, List.set_cons_succ, i64_w, i32_w]
                        rfl
                       refine pure_ (i := 11) (N := some 33) (v := ?_) (a' := ?_) #[T,T,T,T,T,T,T,T,T,T,F,T,F,F,F,F,F,F,F,F,F,F,F,F,F,F,F,F,F,F,F,F,F,F,F,F,F,F,F,F,F,F,F,F,F,F,F,F,F,F,F,F,F,F,F,F,F,F,F,F,F,F,F,F,F,F,F,F,F,F,F,F,F,F,F] rfl rfl (any_of HT_.out (by kernel_rfl)) (fun _ _ _ h => h) (Or.inl ⟨by rfl, ?_⟩) ?_ ?_
                       rotate_left
                       ·intro w'
                        go_simp
                        with_reducible rfl
                       rotate_left
                       ·simp only [Act.put, List.setIfInBounds_toArray, List.set_cons_zero, List.set_cons_succ, i64_w, i32_w]
                        rfl
                       refine one_ (i := 10) (N := some 32) #[T,T,T,T,T,T,T,T,T,T,T,T,F,F,F,F,F,F,F,F,F,F,F,F,F,F,F,F,F,F,F,F,F,F,F,F,F,F,F,F,F,F,F,F,F,F,F,F,F,F,F,F,F,F,F,F,F,F,F,F,F,F,F,F,F,F,F,F,F,F,F,F,F,F,F] rfl rfl (one_of HT_.out (by kernel_rfl)) (by decide) (fun K hK => ?_)
                       refine goes_ Tryd.func11 (by kernel_rfl) rfl #[.string ((⟨#[38]⟩ : ByteArray) ++ (rdOf ByteArray.empty y102 (ji5)))] (by rfl) rfl rfl (by (try simp only [List.map_toArray, List.map_cons, List.map_nil]); first | done | (simp only [hji5]; rfl) | rfl | (simp only [List.length_drop, List.length_take]; rfl)) ?_
                       with_reducible refine (refs_Decode.calls ((⟨#[38]⟩ : ByteArray) ++ (rdOf ByteArray.empty y102 (ji5))) t111 _ A13.out).mono ?_
                       rintro e w44 ⟨rfl, hb⟩
                       have HS0_ := (hb.cell (World.block_lt_of_cell? _ _ (hHeld.1))).trans (hHeld.1)
                       have HS1_ := (hb.cell (World.block_lt_of_cell? _ _ (hHeld.2.1))).trans (hHeld.2.1)
                       have HS2_ := (hb.cell (World.block_lt_of_cell? _ _ (hHeld.2.2.1))).trans (hHeld.2.2.1)
                       have HS3_ := (hb.cell (World.block_lt_of_cell? _ _ (hHeld.2.2.2.1))).trans (hHeld.2.2.2.1)
                       have HS4_ := (hb.cell (World.block_lt_of_cell? _ _ (hHeld.2.2.2.2.1))).trans (hHeld.2.2.2.2.1)
                       have HS5_ := (hb.cell (World.block_lt_of_cell? _ _ (hHeld.2.2.2.2.2))).trans (hHeld.2.2.2.2.2)
                       refine ⟨_, rfl, ?_⟩
                       have n0_ := Aside0.mk (Kd.R_below (by (with_reducible repeat (first | apply Kd.R_alloc | apply Kd.R_drewN | apply Kd.R_drew)); exact HO104.out) hb)
                       have n1_ := Aside0.mk (Kd.R_below (by (with_reducible repeat (first | apply Kd.R_alloc | apply Kd.R_drewN | apply Kd.R_drew)); exact HO107.out) hb)
                       have n2_ := Aside0.mk (below_step (by repeat (first | (with_reducible first | exact HB.out | apply below_alloc | apply pw_below_drewN | apply below_drew1) | exact HB.out)) hb)
                       clear HO104
                       clear HO107
                       clear HB
                       have HO104 := n0_
                       have HO107 := n1_
                       have HB := n2_
                       clear n0_ n1_ n2_
                       (try clear hb)
                       (try clear hb2)
                       (try clear hk)
                       (try clear hi)
                       refine hK.out _ _ ⟨HS0_, HS1_, HS2_, HS3_, HS4_, HS5_⟩ (fun hHeld => ?_)
                       clear hK K
                       refine norm_ (a' := ?_) ?_ ?_
                       rotate_left
                       ·show Act.put _ (some 32) _ = _
                        simp only [Act.put, List.setIfInBounds_toArray, List.set_cons_zero, List.set_cons_succ, i64_w, i32_w]
                        rfl
                       refine pure_ (i := 12) (N := some 34) (v := ?_) (a' := ?_) #[T,T,T,T,T,T,T,T,T,T,T,T,T,F,F,F,F,F,F,F,F,F,F,F,F,F,F,F,F,F,F,F,F,F,F,F,F,F,F,F,F,F,F,F,F,F,F,F,F,F,F,F,F,F,F,F,F,F,F,F,F,F,F,F,F,F,F,F,F,F,F,F,F,F,F] rfl rfl (any_of HT_.out (by kernel_rfl)) (fun _ _ _ h => h) (Or.inl ⟨by rfl, ?_⟩) ?_ ?_
                       rotate_left
                       ·intro w'
                        go_simp
                        with_reducible rfl
                       rotate_left
                       ·simp only [Act.put, List.setIfInBounds_toArray, List.set_cons_zero, List.set_cons_succ, i64_w, i32_w]
                        rfl
                       refine pure_ (i := 13) (N := some 35) (v := ?_) (a' := ?_) #[T,T,T,T,T,T,T,T,T,T,T,T,T,T,F,F,F,F,F,F,F,F,F,F,F,F,F,F,F,F,F,F,F,F,F,F,F,F,F,F,F,F,F,F,F,F,F,F,F,F,F,F,F,F,F,F,F,F,F,F,F,F,F,F,F,F,F,F,F,F,F,F,F,F,F] rfl rfl (any_of HT_.out (by kernel_rfl)) (fun _ _ _ h => h) (Or.inl ⟨by rfl, ?_⟩) ?_ ?_
                       rotate_left
                       ·intro w'
                        go_simp
                        with_reducible rfl
                       rotate_left
                       ·simp only [Act.put, List.setIfInBounds_toArray, List.set_cons_zero, List.set_cons_succ, i64_w, i32_w]
                        rfl
                       refine pure_ (i := 14) (N := some 36) (v := ?_) (a' := ?_) #[T,T,T,T,T,T,T,T,T,T,T,T,T,T,T,F,F,F,F,F,F,F,F,F,F,F,F,F,F,F,F,F,F,F,F,F,F,F,F,F,F,F,F,F,F,F,F,F,F,F,F,F,F,F,F,F,F,F,F,F,F,F,F,F,F,F,F,F,F,F,F,F,F,F,F] rfl rfl (any_of HT_.out (by kernel_rfl)) (fun _ _ _ h => h) (Or.inl ⟨by rfl, ?_⟩) ?_ ?_
                       rotate_left
                       ·intro w'
                        go_simp
                        with_reducible rfl
                       rotate_left
                       ·simp only [Act.put, List.setIfInBounds_toArray, List.set_cons_zero, List.set_cons_succ, i64_w, i32_w]
                        rfl
                       refine pure_ (i := 15) (N := some 37) (v := ?_) (a' := ?_) #[T,T,T,T,T,T,T,T,T,T,T,T,T,T,T,T,F,F,F,F,F,F,F,F,F,F,F,F,F,F,F,F,F,F,F,F,F,F,F,F,F,F,F,F,F,F,F,F,F,F,F,F,F,F,F,F,F,F,F,F,F,F,F,F,F,F,F,F,F,F,F,F,F,F,F] rfl rfl (any_of HT_.out (by kernel_rfl)) (fun _ _ _ h => h) (Or.inl ⟨by rfl, ?_⟩) ?_ ?_
                       rotate_left
                       ·intro w'
                        go_simp
                        with_reducible rfl
                       rotate_left
                       ·simp only [Act.put, List.setIfInBounds_toArray, List.set_cons_zero, List.set_cons_succ, i64_w, i32_w]
                        rfl
                       refine pure_ (i := 16) (N := some 38) (v := ?_) (a' := ?_) #[T,T,T,T,T,T,T,T,T,T,T,T,T,T,T,T,T,F,F,F,F,F,F,F,F,F,F,F,F,F,F,F,F,F,F,F,F,F,F,F,F,F,F,F,F,F,F,F,F,F,F,F,F,F,F,F,F,F,F,F,F,F,F,F,F,F,F,F,F,F,F,F,F,F,F] rfl rfl (any_of HT_.out (by kernel_rfl)) (fun _ _ _ h => h) (Or.inl ⟨by rfl, ?_⟩) ?_ ?_
                       rotate_left
                       ·intro w'
                        go_simp
                        with_reducible rfl
                       rotate_left
                       ·simp only [Act.put, List.setIfInBounds_toArray, List.set_cons_zero, List.set_cons_succ, i64_w, i32_w]
                        rfl
                       refine pure_ (i := 18) (N := some 40) (v := ?_) (a' := ?_) #[T,T,T,T,T,T,T,T,T,T,T,T,T,T,T,T,T,F,T,F,F,F,F,F,F,F,F,F,F,F,F,F,F,F,F,F,F,F,F,F,F,F,F,F,F,F,F,F,F,F,F,F,F,F,F,F,F,F,F,F,F,F,F,F,F,F,F,F,F,F,F,F,F,F,F] rfl rfl (any_of HT_.out (by kernel_rfl)) (fun _ _ _ h => h) (Or.inl ⟨by rfl, ?_⟩) ?_ ?_
                       rotate_left
                       ·intro w'
                        go_simp
                        with_reducible rfl
                       rotate_left
                       ·simp only [Act.put, List.setIfInBounds_toArray, List.set_cons_zero, List.set_cons_succ, i64_w, i32_w]
                        rfl
                       refine pure_ (i := 19) (N := some 41) (v := ?_) (a' := ?_) #[T,T,T,T,T,T,T,T,T,T,T,T,T,T,T,T,T,F,T,T,F,F,F,F,F,F,F,F,F,F,F,F,F,F,F,F,F,F,F,F,F,F,F,F,F,F,F,F,F,F,F,F,F,F,F,F,F,F,F,F,F,F,F,F,F,F,F,F,F,F,F,F,F,F,F] rfl rfl (any_of HT_.out (by kernel_rfl)) (fun _ _ _ h => h) (Or.inl ⟨by rfl, ?_⟩) ?_ ?_
                       rotate_left
                       ·intro w'
                        go_simp
                        with_reducible rfl
                       rotate_left
                       ·simp only [Act.put, List.setIfInBounds_toArray, List.set_cons_zero, List.set_cons_succ, i64_w, i32_w]
                        rfl
                       refine one_ (i := 17) (N := some 39) #[T,T,T,T,T,T,T,T,T,T,T,T,T,T,T,T,T,T,T,T,F,F,F,F,F,F,F,F,F,F,F,F,F,F,F,F,F,F,F,F,F,F,F,F,F,F,F,F,F,F,F,F,F,F,F,F,F,F,F,F,F,F,F,F,F,F,F,F,F,F,F,F,F,F,F] rfl rfl (one_of HT_.out (by kernel_rfl)) (by decide) (fun K hK => ?_)
                       refine goes_ Tryd.func11 (by kernel_rfl) rfl #[.string (((⟨#[38]⟩ : ByteArray) ++ (rdOf ByteArray.empty y102 (ji5))) ++ (⟨#[32, 59]⟩ : ByteArray))] (by rfl) rfl rfl (by (try simp only [List.map_toArray, List.map_cons, List.map_nil]); first | done | (simp only [hji5]; rfl) | rfl | (simp only [List.length_drop, List.length_take]; rfl)) ?_
                       with_reducible refine (refs_Decode.calls (((⟨#[38]⟩ : ByteArray) ++ (rdOf ByteArray.empty y102 (ji5))) ++ (⟨#[32, 59]⟩ : ByteArray)) t112 _ A16.out).mono ?_
                       rintro e w45 ⟨rfl, hb⟩
                       have HS0_ := (hb.cell (World.block_lt_of_cell? _ _ (hHeld.1))).trans (hHeld.1)
                       have HS1_ := (hb.cell (World.block_lt_of_cell? _ _ (hHeld.2.1))).trans (hHeld.2.1)
                       have HS2_ := (hb.cell (World.block_lt_of_cell? _ _ (hHeld.2.2.1))).trans (hHeld.2.2.1)
                       have HS3_ := (hb.cell (World.block_lt_of_cell? _ _ (hHeld.2.2.2.1))).trans (hHeld.2.2.2.1)
                       have HS4_ := (hb.cell (World.block_lt_of_cell? _ _ (hHeld.2.2.2.2.1))).trans (hHeld.2.2.2.2.1)
                       have HS5_ := (hb.cell (World.block_lt_of_cell? _ _ (hHeld.2.2.2.2.2))).trans (hHeld.2.2.2.2.2)
                       refine ⟨_, rfl, ?_⟩
                       have n0_ := Aside0.mk (Kd.R_below (by (with_reducible repeat (first | apply Kd.R_alloc | apply Kd.R_drewN | apply Kd.R_drew)); exact HO104.out) hb)
                       have n1_ := Aside0.mk (Kd.R_below (by (with_reducible repeat (first | apply Kd.R_alloc | apply Kd.R_drewN | apply Kd.R_drew)); exact HO107.out) hb)
                       have n2_ := Aside0.mk (below_step (by repeat (first | (with_reducible first | exact HB.out | apply below_alloc | apply pw_below_drewN | apply below_drew1) | exact HB.out)) hb)
                       clear HO104
                       clear HO107
                       clear HB
                       have HO104 := n0_
                       have HO107 := n1_
                       have HB := n2_
                       clear n0_ n1_ n2_
                       (try clear hb)
                       (try clear hb2)
                       (try clear hk)
                       (try clear hi)
                       refine hK.out _ _ ⟨HS0_, HS1_, HS2_, HS3_, HS4_, HS5_⟩ (fun hHeld => ?_)
                       clear hK K
                       refine norm_ (a' := ?_) ?_ ?_
                       rotate_left
                       ·show Act.put _ (some 39) _ = _
                        simp only [Act.put, List.setIfInBounds_toArray, List.set_cons_zero, List.set_cons_succ, i64_w, i32_w]
                        rfl
                       refine pure_ (i := 20) (N := some 42) (v := ?_) (a' := ?_) #[T,T,T,T,T,T,T,T,T,T,T,T,T,T,T,T,T,T,T,T,T,F,F,F,F,F,F,F,F,F,F,F,F,F,F,F,F,F,F,F,F,F,F,F,F,F,F,F,F,F,F,F,F,F,F,F,F,F,F,F,F,F,F,F,F,F,F,F,F,F,F,F,F,F,F] rfl rfl (any_of HT_.out (by kernel_rfl)) (fun _ _ _ h => h) (Or.inl ⟨by rfl, ?_⟩) ?_ ?_
                       rotate_left
                       ·intro w'
                        go_simp
                        with_reducible rfl
                       rotate_left
                       ·simp only [Act.put, List.setIfInBounds_toArray, List.set_cons_zero, List.set_cons_succ, i64_w, i32_w]
                        rfl
                       refine pure_ (i := 21) (N := some 43) (v := ?_) (a' := ?_) #[T,T,T,T,T,T,T,T,T,T,T,T,T,T,T,T,T,T,T,T,T,T,F,F,F,F,F,F,F,F,F,F,F,F,F,F,F,F,F,F,F,F,F,F,F,F,F,F,F,F,F,F,F,F,F,F,F,F,F,F,F,F,F,F,F,F,F,F,F,F,F,F,F,F,F] rfl rfl (any_of HT_.out (by kernel_rfl)) (fun _ _ _ h => h) (Or.inl ⟨by rfl, ?_⟩) ?_ ?_
                       rotate_left
                       ·intro w'
                        go_simp
                        with_reducible rfl
                       rotate_left
                       ·simp only [Act.put, List.setIfInBounds_toArray, List.set_cons_zero, List.set_cons_succ, i64_w, i32_w]
                        rfl
                       refine pure_ (i := 22) (N := some 44) (v := ?_) (a' := ?_) #[T,T,T,T,T,T,T,T,T,T,T,T,T,T,T,T,T,T,T,T,T,T,T,F,F,F,F,F,F,F,F,F,F,F,F,F,F,F,F,F,F,F,F,F,F,F,F,F,F,F,F,F,F,F,F,F,F,F,F,F,F,F,F,F,F,F,F,F,F,F,F,F,F,F,F] rfl rfl (any_of HT_.out (by kernel_rfl)) (fun _ _ _ h => h) (Or.inl ⟨by rfl, ?_⟩) ?_ ?_
                       rotate_left
                       ·intro w'
                        go_simp
                        with_reducible rfl
                       rotate_left
                       ·simp only [Act.put, List.setIfInBounds_toArray, List.set_cons_zero, List.set_cons_succ, i64_w, i32_w]
                        rfl
                       refine pure_ (i := 23) (N := some 45) (v := ?_) (a' := ?_) #[T,T,T,T,T,T,T,T,T,T,T,T,T,T,T,T,T,T,T,T,T,T,T,T,F,F,F,F,F,F,F,F,F,F,F,F,F,F,F,F,F,F,F,F,F,F,F,F,F,F,F,F,F,F,F,F,F,F,F,F,F,F,F,F,F,F,F,F,F,F,F,F,F,F,F] rfl rfl (any_of HT_.out (by kernel_rfl)) (fun _ _ _ h => h) (Or.inl ⟨by rfl, ?_⟩) ?_ ?_
                       rotate_left
                       ·intro w'
                        go_simp
                        with_reducible rfl
                       rotate_left
                       ·simp only [Act.put, List.setIfInBounds_toArray, List.set_cons_zero, List.set_cons_succ, i64_w, i32_w]
                        rfl
                       refine pure_ (i := 24) (N := some 46) (v := ?_) (a' := ?_) #[T,T,T,T,T,T,T,T,T,T,T,T,T,T,T,T,T,T,T,T,T,T,T,T,T,F,F,F,F,F,F,F,F,F,F,F,F,F,F,F,F,F,F,F,F,F,F,F,F,F,F,F,F,F,F,F,F,F,F,F,F,F,F,F,F,F,F,F,F,F,F,F,F,F,F] rfl rfl (any_of HT_.out (by kernel_rfl)) (fun _ _ _ h => h) (Or.inl ⟨by rfl, ?_⟩) ?_ ?_
                       rotate_left
                       ·intro w'
                        go_simp
                        with_reducible rfl
                       rotate_left
                       ·simp only [Act.put, List.setIfInBounds_toArray, List.set_cons_zero, List.set_cons_succ, i64_w, i32_w]
                        rfl
                       refine pure_ (i := 25) (N := some 47) (v := ?_) (a' := ?_) #[T,T,T,T,T,T,T,T,T,T,T,T,T,T,T,T,T,T,T,T,T,T,T,T,T,T,F,F,F,F,F,F,F,F,F,F,F,F,F,F,F,F,F,F,F,F,F,F,F,F,F,F,F,F,F,F,F,F,F,F,F,F,F,F,F,F,F,F,F,F,F,F,F,F,F] rfl rfl (any_of HT_.out (by kernel_rfl)) (fun _ _ _ h => h) (Or.inl ⟨by rfl, ?_⟩) ?_ ?_
                       rotate_left
                       ·intro w'
                        go_simp
                        with_reducible rfl
                       rotate_left
                       ·simp only [Act.put, List.setIfInBounds_toArray, List.set_cons_zero, List.set_cons_succ, i64_w, i32_w]
                        rfl
                       refine pure_ (i := 30) (N := some 52) (v := ?_) (a' := ?_) #[T,T,T,T,T,T,T,T,T,T,T,T,T,T,T,T,T,T,T,T,T,T,T,T,T,T,F,F,F,F,T,F,F,F,F,F,F,F,F,F,F,F,F,F,F,F,F,F,F,F,F,F,F,F,F,F,F,F,F,F,F,F,F,F,F,F,F,F,F,F,F,F,F,F,F] rfl rfl (any_of HT_.out (by kernel_rfl)) (fun _ _ _ h => h) (Or.inl ⟨by rfl, ?_⟩) ?_ ?_
                       rotate_left
                       ·intro w'
                        go_simp
                        with_reducible rfl
                       rotate_left
                       ·simp only [Act.put, List.setIfInBounds_toArray, List.set_cons_zero, List.set_cons_succ, i64_w, i32_w]
                        rfl
                       refine pure_ (i := 31) (N := some 53) (v := ?_) (a' := ?_) #[T,T,T,T,T,T,T,T,T,T,T,T,T,T,T,T,T,T,T,T,T,T,T,T,T,T,F,F,F,F,T,T,F,F,F,F,F,F,F,F,F,F,F,F,F,F,F,F,F,F,F,F,F,F,F,F,F,F,F,F,F,F,F,F,F,F,F,F,F,F,F,F,F,F,F] rfl rfl (any_of HT_.out (by kernel_rfl)) (fun _ _ _ h => h) (Or.inl ⟨by rfl, ?_⟩) ?_ ?_
                       rotate_left
                       ·intro w'
                        go_simp
                        with_reducible rfl
                       rotate_left
                       ·simp only [Act.put, List.setIfInBounds_toArray, List.set_cons_zero, List.set_cons_succ, i64_w, i32_w]
                        rfl
                       refine pure_ (i := 32) (N := some 54) (v := ?_) (a' := ?_) #[T,T,T,T,T,T,T,T,T,T,T,T,T,T,T,T,T,T,T,T,T,T,T,T,T,T,F,F,F,F,T,T,T,F,F,F,F,F,F,F,F,F,F,F,F,F,F,F,F,F,F,F,F,F,F,F,F,F,F,F,F,F,F,F,F,F,F,F,F,F,F,F,F,F,F] rfl rfl (any_of HT_.out (by kernel_rfl)) (fun _ _ _ h => h) (Or.inl ⟨by rfl, ?_⟩) ?_ ?_
                       rotate_left
                       ·intro w'
                        go_simp
                        with_reducible rfl
                       rotate_left
                       ·simp only [Act.put, List.setIfInBounds_toArray, List.set_cons_zero, List.set_cons_succ, i64_w, i32_w]
                        rfl
                       refine take_ (i := 26) (N := some 48) (v := ?_) (a' := ?_) #[T,T,T,T,T,T,T,T,T,T,T,T,T,T,T,T,T,T,T,T,T,T,T,T,T,T,T,F,F,F,T,T,T,F,F,F,F,F,F,F,F,F,F,F,F,F,F,F,F,F,F,F,F,F,F,F,F,F,F,F,F,F,F,F,F,F,F,F,F,F,F,F,F,F,F] rfl rfl (take_ofW HT_.out HW_.out (by kernel_rfl)) (fun _ _ _ h => h) (Or.inl ⟨by rfl, ?_⟩) hHeld ?_ ?_
                       rotate_left
                       ·rintro w' ⟨s0, s1, s2, s3, s4, s5⟩
                        go_simp
                        with_reducible rfl
                       rotate_left
                       ·simp only [Act.put, List.setIfInBounds_toArray, List.set_cons_zero, List.set_cons_succ, i64_w, i32_w]
                        rfl
                       refine pure_ (i := 27) (N := some 49) (v := ?_) (a' := ?_) #[T,T,T,T,T,T,T,T,T,T,T,T,T,T,T,T,T,T,T,T,T,T,T,T,T,T,T,T,F,F,T,T,T,F,F,F,F,F,F,F,F,F,F,F,F,F,F,F,F,F,F,F,F,F,F,F,F,F,F,F,F,F,F,F,F,F,F,F,F,F,F,F,F,F,F] rfl rfl (any_of HT_.out (by kernel_rfl)) (fun _ _ _ h => h) (Or.inl ⟨by rfl, ?_⟩) ?_ ?_
                       rotate_left
                       ·intro w'
                        go_simp
                        with_reducible rfl
                       rotate_left
                       ·simp only [Act.put, List.setIfInBounds_toArray, List.set_cons_zero, List.set_cons_succ, i64_w, i32_w]
                        rfl
                       refine pure_ (i := 28) (N := some 50) (v := ?_) (a' := ?_) #[T,T,T,T,T,T,T,T,T,T,T,T,T,T,T,T,T,T,T,T,T,T,T,T,T,T,T,T,T,F,T,T,T,F,F,F,F,F,F,F,F,F,F,F,F,F,F,F,F,F,F,F,F,F,F,F,F,F,F,F,F,F,F,F,F,F,F,F,F,F,F,F,F,F,F] rfl rfl (any_of HT_.out (by kernel_rfl)) (fun _ _ _ h => h) (Or.inl ⟨by rfl, ?_⟩) ?_ ?_
                       rotate_left
                       ·intro w'
                        go_simp
                        with_reducible rfl
                       rotate_left
                       ·simp only [Act.put, List.setIfInBounds_toArray, List.set_cons_zero, List.set_cons_succ, i64_w, i32_w]
                        rfl
                       refine take_ (i := 33) (N := some 55) (v := ?_) (a' := ?_) #[T,T,T,T,T,T,T,T,T,T,T,T,T,T,T,T,T,T,T,T,T,T,T,T,T,T,T,T,T,F,T,T,T,T,F,F,F,F,F,F,F,F,F,F,F,F,F,F,F,F,F,F,F,F,F,F,F,F,F,F,F,F,F,F,F,F,F,F,F,F,F,F,F,F,F] rfl rfl (take_ofW HT_.out HW_.out (by kernel_rfl)) (fun _ _ _ h => h) (Or.inl ⟨by rfl, ?_⟩) hHeld ?_ ?_
                       rotate_left
                       ·rintro w' ⟨s0, s1, s2, s3, s4, s5⟩
                        go_simp
                        with_reducible rfl
                       rotate_left
                       ·simp only [Act.put, List.setIfInBounds_toArray, List.set_cons_zero, List.set_cons_succ, i64_w, i32_w]
                        rfl
                       refine pure_ (i := 34) (N := some 56) (v := ?_) (a' := ?_) #[T,T,T,T,T,T,T,T,T,T,T,T,T,T,T,T,T,T,T,T,T,T,T,T,T,T,T,T,T,F,T,T,T,T,T,F,F,F,F,F,F,F,F,F,F,F,F,F,F,F,F,F,F,F,F,F,F,F,F,F,F,F,F,F,F,F,F,F,F,F,F,F,F,F,F] rfl rfl (any_of HT_.out (by kernel_rfl)) (fun _ _ _ h => h) (Or.inl ⟨by rfl, ?_⟩) ?_ ?_
                       rotate_left
                       ·intro w'
                        go_simp
                        with_reducible rfl
                       rotate_left
                       ·simp only [Act.put, List.setIfInBounds_toArray, List.set_cons_zero, List.set_cons_succ, i64_w, i32_w]
                        rfl
                       refine pure_ (i := 35) (N := some 57) (v := ?_) (a' := ?_) #[T,T,T,T,T,T,T,T,T,T,T,T,T,T,T,T,T,T,T,T,T,T,T,T,T,T,T,T,T,F,T,T,T,T,T,T,F,F,F,F,F,F,F,F,F,F,F,F,F,F,F,F,F,F,F,F,F,F,F,F,F,F,F,F,F,F,F,F,F,F,F,F,F,F,F] rfl rfl (any_of HT_.out (by kernel_rfl)) (fun _ _ _ h => h) (Or.inl ⟨by rfl, ?_⟩) ?_ ?_
                       rotate_left
                       ·intro w'
                        go_simp
                        with_reducible rfl
                       rotate_left
                       ·simp only [Act.put, List.setIfInBounds_toArray, List.set_cons_zero, List.set_cons_succ, i64_w, i32_w]
                        rfl
                       refine one_ (i := 29) (N := some 51) #[T,T,T,T,T,T,T,T,T,T,T,T,T,T,T,T,T,T,T,T,T,T,T,T,T,T,T,T,T,T,T,T,T,T,T,T,F,F,F,F,F,F,F,F,F,F,F,F,F,F,F,F,F,F,F,F,F,F,F,F,F,F,F,F,F,F,F,F,F,F,F,F,F,F,F] rfl rfl (one_of HT_.out (by kernel_rfl)) (by decide) (fun K hK => ?_)
                       refine goes_ Tryd.func11 (by kernel_rfl) rfl #[.string (((⟨#[38, 65]⟩ : ByteArray) ++ (rdOf ByteArray.empty y102 (ji5))) ++ (⟨#[59]⟩ : ByteArray))] (by rfl) rfl rfl (by (try simp only [List.map_toArray, List.map_cons, List.map_nil]); first | done | (simp only [hji5]; rfl) | rfl | (simp only [List.length_drop, List.length_take]; rfl)) ?_
                       with_reducible refine (refs_Decode.calls (((⟨#[38, 65]⟩ : ByteArray) ++ (rdOf ByteArray.empty y102 (ji5))) ++ (⟨#[59]⟩ : ByteArray)) t114 _ A20.out).mono ?_
                       rintro e w46 ⟨rfl, hb⟩
                       have HS0_ := (hb.cell (World.block_lt_of_cell? _ _ (hHeld.1))).trans (hHeld.1)
                       have HS1_ := (hb.cell (World.block_lt_of_cell? _ _ (hHeld.2.1))).trans (hHeld.2.1)
                       have HS2_ := (hb.cell (World.block_lt_of_cell? _ _ (hHeld.2.2.1))).trans (hHeld.2.2.1)
                       have HS3_ := (hb.cell (World.block_lt_of_cell? _ _ (hHeld.2.2.2.1))).trans (hHeld.2.2.2.1)
                       have HS4_ := (hb.cell (World.block_lt_of_cell? _ _ (hHeld.2.2.2.2.1))).trans (hHeld.2.2.2.2.1)
                       have HS5_ := (hb.cell (World.block_lt_of_cell? _ _ (hHeld.2.2.2.2.2))).trans (hHeld.2.2.2.2.2)
                       refine ⟨_, rfl, ?_⟩
                       have n0_ := Aside0.mk (Kd.R_below (by (with_reducible repeat (first | apply Kd.R_alloc | apply Kd.R_drewN | apply Kd.R_drew)); exact HO104.out) hb)
                       have n1_ := Aside0.mk (Kd.R_below (by (with_reducible repeat (first | apply Kd.R_alloc | apply Kd.R_drewN | apply Kd.R_drew)); exact HO107.out) hb)
                       have n2_ := Aside0.mk (below_step (by repeat (first | (with_reducible first | exact HB.out | apply below_alloc | apply pw_below_drewN | apply below_drew1) | exact HB.out)) hb)
                       clear HO104
                       clear HO107
                       clear HB
                       have HO104 := n0_
                       have HO107 := n1_
                       have HB := n2_
                       clear n0_ n1_ n2_
                       (try clear hb)
                       (try clear hb2)
                       (try clear hk)
                       (try clear hi)
                       refine hK.out _ _ ⟨HS0_, HS1_, HS2_, HS3_, HS4_, HS5_⟩ (fun hHeld => ?_)
                       clear hK K
                       refine norm_ (a' := ?_) ?_ ?_
                       rotate_left
                       ·show Act.put _ (some 51) _ = _
                        simp only [Act.put, List.setIfInBounds_toArray, List.set_cons_zero, List.set_cons_succ, i64_w, i32_w]
                        rfl
                       refine pure_ (i := 36) (N := some 58) (v := ?_) (a' := ?_) #[T,T,T,T,T,T,T,T,T,T,T,T,T,T,T,T,T,T,T,T,T,T,T,T,T,T,T,T,T,T,T,T,T,T,T,T,T,F,F,F,F,F,F,F,F,F,F,F,F,F,F,F,F,F,F,F,F,F,F,F,F,F,F,F,F,F,F,F,F,F,F,F,F,F,F] rfl rfl (any_of HT_.out (by kernel_rfl)) (fun _ _ _ h => h) (Or.inl ⟨by rfl, ?_⟩) ?_ ?_
                       rotate_left
                       ·intro w'
                        go_simp
                        with_reducible rfl
                       rotate_left
                       ·simp only [Act.put, List.setIfInBounds_toArray, List.set_cons_zero, List.set_cons_succ, i64_w, i32_w]
                        rfl
                       refine pure_ (i := 37) (N := some 59) (v := ?_) (a' := ?_) #[T,T,T,T,T,T,T,T,T,T,T,T,T,T,T,T,T,T,T,T,T,T,T,T,T,T,T,T,T,T,T,T,T,T,T,T,T,T,F,F,F,F,F,F,F,F,F,F,F,F,F,F,F,F,F,F,F,F,F,F,F,F,F,F,F,F,F,F,F,F,F,F,F,F,F] rfl rfl (any_of HT_.out (by kernel_rfl)) (fun _ _ _ h => h) (Or.inl ⟨by rfl, ?_⟩) ?_ ?_
                       rotate_left
                       ·intro w'
                        go_simp
                        with_reducible rfl
                       rotate_left
                       ·simp only [Act.put, List.setIfInBounds_toArray, List.set_cons_zero, List.set_cons_succ, i64_w, i32_w]
                        rfl
                       refine pure_ (i := 38) (N := some 60) (v := ?_) (a' := ?_) #[T,T,T,T,T,T,T,T,T,T,T,T,T,T,T,T,T,T,T,T,T,T,T,T,T,T,T,T,T,T,T,T,T,T,T,T,T,T,T,F,F,F,F,F,F,F,F,F,F,F,F,F,F,F,F,F,F,F,F,F,F,F,F,F,F,F,F,F,F,F,F,F,F,F,F] rfl rfl (any_of HT_.out (by kernel_rfl)) (fun _ _ _ h => h) (Or.inl ⟨by rfl, ?_⟩) ?_ ?_
                       rotate_left
                       ·intro w'
                        go_simp
                        with_reducible rfl
                       rotate_left
                       ·simp only [Act.put, List.setIfInBounds_toArray, List.set_cons_zero, List.set_cons_succ, i64_w, i32_w]
                        rfl
                       refine pure_ (i := 39) (N := some 61) (v := ?_) (a' := ?_) #[T,T,T,T,T,T,T,T,T,T,T,T,T,T,T,T,T,T,T,T,T,T,T,T,T,T,T,T,T,T,T,T,T,T,T,T,T,T,T,T,F,F,F,F,F,F,F,F,F,F,F,F,F,F,F,F,F,F,F,F,F,F,F,F,F,F,F,F,F,F,F,F,F,F,F] rfl rfl (any_of HT_.out (by kernel_rfl)) (fun _ _ _ h => h) (Or.inl ⟨by rfl, ?_⟩) ?_ ?_
                       rotate_left
                       ·intro w'
                        go_simp
                        with_reducible rfl
                       rotate_left
                       ·simp only [Act.put, List.setIfInBounds_toArray, List.set_cons_zero, List.set_cons_succ, i64_w, i32_w]
                        rfl
                       refine pure_ (i := 40) (N := some 62) (v := ?_) (a' := ?_) #[T,T,T,T,T,T,T,T,T,T,T,T,T,T,T,T,T,T,T,T,T,T,T,T,T,T,T,T,T,T,T,T,T,T,T,T,T,T,T,T,T,F,F,F,F,F,F,F,F,F,F,F,F,F,F,F,F,F,F,F,F,F,F,F,F,F,F,F,F,F,F,F,F,F,F] rfl rfl (any_of HT_.out (by kernel_rfl)) (fun _ _ _ h => h) (Or.inl ⟨by rfl, ?_⟩) ?_ ?_
                       rotate_left
                       ·intro w'
                        go_simp
                        with_reducible rfl
                       rotate_left
                       ·simp only [Act.put, List.setIfInBounds_toArray, List.set_cons_zero, List.set_cons_succ, i64_w, i32_w]
                        rfl
                       refine pure_ (i := 41) (N := some 63) (v := ?_) (a' := ?_) #[T,T,T,T,T,T,T,T,T,T,T,T,T,T,T,T,T,T,T,T,T,T,T,T,T,T,T,T,T,T,T,T,T,T,T,T,T,T,T,T,T,T,F,F,F,F,F,F,F,F,F,F,F,F,F,F,F,F,F,F,F,F,F,F,F,F,F,F,F,F,F,F,F,F,F] rfl rfl (any_of HT_.out (by kernel_rfl)) (fun _ _ _ h => h) (Or.inl ⟨by rfl, ?_⟩) ?_ ?_
                       rotate_left
                       ·intro w'
                        go_simp
                        with_reducible rfl
                       rotate_left
                       ·simp only [Act.put, List.setIfInBounds_toArray, List.set_cons_zero, List.set_cons_succ, i64_w, i32_w]
                        rfl
                       refine pure_ (i := 42) (N := some 64) (v := ?_) (a' := ?_) #[T,T,T,T,T,T,T,T,T,T,T,T,T,T,T,T,T,T,T,T,T,T,T,T,T,T,T,T,T,T,T,T,T,T,T,T,T,T,T,T,T,T,T,F,F,F,F,F,F,F,F,F,F,F,F,F,F,F,F,F,F,F,F,F,F,F,F,F,F,F,F,F,F,F,F] rfl rfl (any_of HT_.out (by kernel_rfl)) (fun _ _ _ h => h) (Or.inl ⟨by rfl, ?_⟩) ?_ ?_
                       rotate_left
                       ·intro w'
                        go_simp
                        with_reducible rfl
                       rotate_left
                       ·simp only [Act.put, List.setIfInBounds_toArray, List.set_cons_zero, List.set_cons_succ, i64_w, i32_w]
                        rfl
                       refine pure_ (i := 43) (N := some 65) (v := ?_) (a' := ?_) #[T,T,T,T,T,T,T,T,T,T,T,T,T,T,T,T,T,T,T,T,T,T,T,T,T,T,T,T,T,T,T,T,T,T,T,T,T,T,T,T,T,T,T,T,F,F,F,F,F,F,F,F,F,F,F,F,F,F,F,F,F,F,F,F,F,F,F,F,F,F,F,F,F,F,F] rfl rfl (any_of HT_.out (by kernel_rfl)) (fun _ _ _ h => h) (Or.inl ⟨by rfl, ?_⟩) ?_ ?_
                       rotate_left
                       ·intro w'
                        go_simp
                        with_reducible rfl
                       rotate_left
                       ·simp only [Act.put, List.setIfInBounds_toArray, List.set_cons_zero, List.set_cons_succ, i64_w, i32_w]
                        rfl
                       refine pure_ (i := 45) (N := some 67) (v := ?_) (a' := ?_) #[T,T,T,T,T,T,T,T,T,T,T,T,T,T,T,T,T,T,T,T,T,T,T,T,T,T,T,T,T,T,T,T,T,T,T,T,T,T,T,T,T,T,T,T,F,T,F,F,F,F,F,F,F,F,F,F,F,F,F,F,F,F,F,F,F,F,F,F,F,F,F,F,F,F,F] rfl rfl (any_of HT_.out (by kernel_rfl)) (fun _ _ _ h => h) (Or.inl ⟨by rfl, ?_⟩) ?_ ?_
                       rotate_left
                       ·intro w'
                        go_simp
                        with_reducible rfl
                       rotate_left
                       ·simp only [Act.put, List.setIfInBounds_toArray, List.set_cons_zero, List.set_cons_succ, i64_w, i32_w]
                        rfl
                       refine pure_ (i := 46) (N := some 68) (v := ?_) (a' := ?_) #[T,T,T,T,T,T,T,T,T,T,T,T,T,T,T,T,T,T,T,T,T,T,T,T,T,T,T,T,T,T,T,T,T,T,T,T,T,T,T,T,T,T,T,T,F,T,T,F,F,F,F,F,F,F,F,F,F,F,F,F,F,F,F,F,F,F,F,F,F,F,F,F,F,F,F] rfl rfl (any_of HT_.out (by kernel_rfl)) (fun _ _ _ h => h) (Or.inl ⟨by rfl, ?_⟩) ?_ ?_
                       rotate_left
                       ·intro w'
                        go_simp
                        with_reducible rfl
                       rotate_left
                       ·simp only [Act.put, List.setIfInBounds_toArray, List.set_cons_zero, List.set_cons_succ, i64_w, i32_w]
                        rfl
                       refine pure_ (i := 47) (N := some 69) (v := ?_) (a' := ?_) #[T,T,T,T,T,T,T,T,T,T,T,T,T,T,T,T,T,T,T,T,T,T,T,T,T,T,T,T,T,T,T,T,T,T,T,T,T,T,T,T,T,T,T,T,F,T,T,T,F,F,F,F,F,F,F,F,F,F,F,F,F,F,F,F,F,F,F,F,F,F,F,F,F,F,F] rfl rfl (any_of HT_.out (by kernel_rfl)) (fun _ _ _ h => h) (Or.inl ⟨by rfl, ?_⟩) ?_ ?_
                       rotate_left
                       ·intro w'
                        go_simp
                        with_reducible rfl
                       rotate_left
                       ·simp only [Act.put, List.setIfInBounds_toArray, List.set_cons_zero, List.set_cons_succ, i64_w, i32_w]
                        rfl
                       refine pure_ (i := 49) (N := some 71) (v := ?_) (a' := ?_) #[T,T,T,T,T,T,T,T,T,T,T,T,T,T,T,T,T,T,T,T,T,T,T,T,T,T,T,T,T,T,T,T,T,T,T,T,T,T,T,T,T,T,T,T,F,T,T,T,F,T,F,F,F,F,F,F,F,F,F,F,F,F,F,F,F,F,F,F,F,F,F,F,F,F,F] rfl rfl (any_of HT_.out (by kernel_rfl)) (fun _ _ _ h => h) (Or.inl ⟨by rfl, ?_⟩) ?_ ?_
                       rotate_left
                       ·intro w'
                        go_simp
                        with_reducible rfl
                       rotate_left
                       ·simp only [Act.put, List.setIfInBounds_toArray, List.set_cons_zero, List.set_cons_succ, i64_w, i32_w]
                        rfl
                       refine pure_ (i := 50) (N := some 72) (v := ?_) (a' := ?_) #[T,T,T,T,T,T,T,T,T,T,T,T,T,T,T,T,T,T,T,T,T,T,T,T,T,T,T,T,T,T,T,T,T,T,T,T,T,T,T,T,T,T,T,T,F,T,T,T,F,T,T,F,F,F,F,F,F,F,F,F,F,F,F,F,F,F,F,F,F,F,F,F,F,F,F] rfl rfl (any_of HT_.out (by kernel_rfl)) (fun _ _ _ h => h) (Or.inl ⟨by rfl, ?_⟩) ?_ ?_
                       rotate_left
                       ·intro w'
                        go_simp
                        with_reducible rfl
                       rotate_left
                       ·simp only [Act.put, List.setIfInBounds_toArray, List.set_cons_zero, List.set_cons_succ, i64_w, i32_w]
                        rfl
                       refine pure_ (i := 51) (N := some 73) (v := ?_) (a' := ?_) #[T,T,T,T,T,T,T,T,T,T,T,T,T,T,T,T,T,T,T,T,T,T,T,T,T,T,T,T,T,T,T,T,T,T,T,T,T,T,T,T,T,T,T,T,F,T,T,T,F,T,T,T,F,F,F,F,F,F,F,F,F,F,F,F,F,F,F,F,F,F,F,F,F,F,F] rfl rfl (any_of HT_.out (by kernel_rfl)) (fun _ _ _ h => h) (Or.inl ⟨by rfl, ?_⟩) ?_ ?_
                       rotate_left
                       ·intro w'
                        go_simp
                        with_reducible rfl
                       rotate_left
                       ·simp only [Act.put, List.setIfInBounds_toArray, List.set_cons_zero, List.set_cons_succ, i64_w, i32_w]
                        rfl
                       refine take_ (i := 48) (N := some 70) (v := ?_) (a' := ?_) #[T,T,T,T,T,T,T,T,T,T,T,T,T,T,T,T,T,T,T,T,T,T,T,T,T,T,T,T,T,T,T,T,T,T,T,T,T,T,T,T,T,T,T,T,F,T,T,T,T,T,T,T,F,F,F,F,F,F,F,F,F,F,F,F,F,F,F,F,F,F,F,F,F,F,F] rfl rfl (take_ofW HT_.out HW_.out (by kernel_rfl)) (fun _ _ _ h => h) (Or.inl ⟨by rfl, ?_⟩) hHeld ?_ ?_
                       rotate_left
                       ·rintro w' ⟨s0, s1, s2, s3, s4, s5⟩
                        go_simp
                        with_reducible rfl
                       rotate_left
                       ·simp only [Act.put, List.setIfInBounds_toArray, List.set_cons_zero, List.set_cons_succ, i64_w, i32_w]
                        rfl
                       refine take_ (i := 52) (N := some 74) (v := ?_) (a' := ?_) #[T,T,T,T,T,T,T,T,T,T,T,T,T,T,T,T,T,T,T,T,T,T,T,T,T,T,T,T,T,T,T,T,T,T,T,T,T,T,T,T,T,T,T,T,F,T,T,T,T,T,T,T,T,F,F,F,F,F,F,F,F,F,F,F,F,F,F,F,F,F,F,F,F,F,F] rfl rfl (take_ofW HT_.out HW_.out (by kernel_rfl)) (fun _ _ _ h => h) (Or.inl ⟨by rfl, ?_⟩) hHeld ?_ ?_
                       rotate_left
                       ·rintro w' ⟨s0, s1, s2, s3, s4, s5⟩
                        go_simp
                        with_reducible rfl
                       rotate_left
                       ·simp only [Act.put, List.setIfInBounds_toArray, List.set_cons_zero, List.set_cons_succ, i64_w, i32_w]
                        rfl
                       refine pure_ (i := 53) (N := some 75) (v := ?_) (a' := ?_) #[T,T,T,T,T,T,T,T,T,T,T,T,T,T,T,T,T,T,T,T,T,T,T,T,T,T,T,T,T,T,T,T,T,T,T,T,T,T,T,T,T,T,T,T,F,T,T,T,T,T,T,T,T,T,F,F,F,F,F,F,F,F,F,F,F,F,F,F,F,F,F,F,F,F,F] rfl rfl (any_of HT_.out (by kernel_rfl)) (fun _ _ _ h => h) (Or.inl ⟨by rfl, ?_⟩) ?_ ?_
                       rotate_left
                       ·intro w'
                        go_simp
                        with_reducible rfl
                       rotate_left
                       ·simp only [Act.put, List.setIfInBounds_toArray, List.set_cons_zero, List.set_cons_succ, i64_w, i32_w]
                        rfl
                       refine one_ (i := 44) (N := some 66) #[T,T,T,T,T,T,T,T,T,T,T,T,T,T,T,T,T,T,T,T,T,T,T,T,T,T,T,T,T,T,T,T,T,T,T,T,T,T,T,T,T,T,T,T,T,T,T,T,T,T,T,T,T,T,F,F,F,F,F,F,F,F,F,F,F,F,F,F,F,F,F,F,F,F,F] rfl rfl (one_of HT_.out (by kernel_rfl)) (by decide) (fun K hK => ?_)
                       refine goes_ Tryd.func11 (by kernel_rfl) rfl #[.string (((((⟨#[38]⟩ : ByteArray) ++ (rdOf ByteArray.empty y102 (ji5))) ++ (⟨#[59]⟩ : ByteArray)) ++ ((⟨#[38]⟩ : ByteArray) ++ (rdOf ByteArray.empty y102 (ji5)))) ++ (⟨#[59]⟩ : ByteArray))] (by rfl) rfl rfl (by (try simp only [List.map_toArray, List.map_cons, List.map_nil]); first | done | (simp only [hji5]; rfl) | rfl | (simp only [List.length_drop, List.length_take]; rfl)) ?_
                       with_reducible refine (refs_Decode.calls (((((⟨#[38]⟩ : ByteArray) ++ (rdOf ByteArray.empty y102 (ji5))) ++ (⟨#[59]⟩ : ByteArray)) ++ ((⟨#[38]⟩ : ByteArray) ++ (rdOf ByteArray.empty y102 (ji5)))) ++ (⟨#[59]⟩ : ByteArray)) t116 _ A24.out).mono ?_
                       rintro e w47 ⟨rfl, hb⟩
                       have HS0_ := (hb.cell (World.block_lt_of_cell? _ _ (hHeld.1))).trans (hHeld.1)
                       have HS1_ := (hb.cell (World.block_lt_of_cell? _ _ (hHeld.2.1))).trans (hHeld.2.1)
                       have HS2_ := (hb.cell (World.block_lt_of_cell? _ _ (hHeld.2.2.1))).trans (hHeld.2.2.1)
                       have HS3_ := (hb.cell (World.block_lt_of_cell? _ _ (hHeld.2.2.2.1))).trans (hHeld.2.2.2.1)
                       have HS4_ := (hb.cell (World.block_lt_of_cell? _ _ (hHeld.2.2.2.2.1))).trans (hHeld.2.2.2.2.1)
                       have HS5_ := (hb.cell (World.block_lt_of_cell? _ _ (hHeld.2.2.2.2.2))).trans (hHeld.2.2.2.2.2)
                       refine ⟨_, rfl, ?_⟩
                       have n0_ := Aside0.mk (Kd.R_below (by (with_reducible repeat (first | apply Kd.R_alloc | apply Kd.R_drewN | apply Kd.R_drew)); exact HO104.out) hb)
                       have n1_ := Aside0.mk (Kd.R_below (by (with_reducible repeat (first | apply Kd.R_alloc | apply Kd.R_drewN | apply Kd.R_drew)); exact HO107.out) hb)
                       have n2_ := Aside0.mk (below_step (by repeat (first | (with_reducible first | exact HB.out | apply below_alloc | apply pw_below_drewN | apply below_drew1) | exact HB.out)) hb)
                       clear HO104
                       clear HO107
                       clear HB
                       have HO104 := n0_
                       have HO107 := n1_
                       have HB := n2_
                       clear n0_ n1_ n2_
                       (try clear hb)
                       (try clear hb2)
                       (try clear hk)
                       (try clear hi)
                       refine hK.out _ _ ⟨HS0_, HS1_, HS2_, HS3_, HS4_, HS5_⟩ (fun hHeld => ?_)
                       clear hK K
                       refine norm_ (a' := ?_) ?_ ?_
                       rotate_left
                       ·show Act.put _ (some 66) _ = _
                        simp only [Act.put, List.setIfInBounds_toArray, List.set_cons_zero, List.set_cons_succ, i64_w, i32_w]
                        rfl
                       refine pure_ (i := 54) (N := some 76) (v := ?_) (a' := ?_) #[T,T,T,T,T,T,T,T,T,T,T,T,T,T,T,T,T,T,T,T,T,T,T,T,T,T,T,T,T,T,T,T,T,T,T,T,T,T,T,T,T,T,T,T,T,T,T,T,T,T,T,T,T,T,T,F,F,F,F,F,F,F,F,F,F,F,F,F,F,F,F,F,F,F,F] rfl rfl (any_of HT_.out (by kernel_rfl)) (fun _ _ _ h => h) (Or.inl ⟨by rfl, ?_⟩) ?_ ?_
                       rotate_left
                       ·intro w'
                        go_simp
                        with_reducible rfl
                       rotate_left
                       ·simp only [Act.put, List.setIfInBounds_toArray, List.set_cons_zero, List.set_cons_succ, i64_w, i32_w]
                        rfl
                       refine pure_ (i := 55) (N := some 77) (v := ?_) (a' := ?_) #[T,T,T,T,T,T,T,T,T,T,T,T,T,T,T,T,T,T,T,T,T,T,T,T,T,T,T,T,T,T,T,T,T,T,T,T,T,T,T,T,T,T,T,T,T,T,T,T,T,T,T,T,T,T,T,T,F,F,F,F,F,F,F,F,F,F,F,F,F,F,F,F,F,F,F] rfl rfl (any_of HT_.out (by kernel_rfl)) (fun _ _ _ h => h) (Or.inl ⟨by rfl, ?_⟩) ?_ ?_
                       rotate_left
                       ·intro w'
                        go_simp
                        with_reducible rfl
                       rotate_left
                       ·simp only [Act.put, List.setIfInBounds_toArray, List.set_cons_zero, List.set_cons_succ, i64_w, i32_w]
                        rfl
                       refine pure_ (i := 56) (N := some 78) (v := ?_) (a' := ?_) #[T,T,T,T,T,T,T,T,T,T,T,T,T,T,T,T,T,T,T,T,T,T,T,T,T,T,T,T,T,T,T,T,T,T,T,T,T,T,T,T,T,T,T,T,T,T,T,T,T,T,T,T,T,T,T,T,T,F,F,F,F,F,F,F,F,F,F,F,F,F,F,F,F,F,F] rfl rfl (any_of HT_.out (by kernel_rfl)) (fun _ _ _ h => h) (Or.inl ⟨by rfl, ?_⟩) ?_ ?_
                       rotate_left
                       ·intro w'
                        go_simp
                        with_reducible rfl
                       rotate_left
                       ·simp only [Act.put, List.setIfInBounds_toArray, List.set_cons_zero, List.set_cons_succ, i64_w, i32_w]
                        rfl
                       refine pure_ (i := 57) (N := some 79) (v := ?_) (a' := ?_) #[T,T,T,T,T,T,T,T,T,T,T,T,T,T,T,T,T,T,T,T,T,T,T,T,T,T,T,T,T,T,T,T,T,T,T,T,T,T,T,T,T,T,T,T,T,T,T,T,T,T,T,T,T,T,T,T,T,T,F,F,F,F,F,F,F,F,F,F,F,F,F,F,F,F,F] rfl rfl (any_of HT_.out (by kernel_rfl)) (fun _ _ _ h => h) (Or.inl ⟨by rfl, ?_⟩) ?_ ?_
                       rotate_left
                       ·intro w'
                        go_simp
                        with_reducible rfl
                       rotate_left
                       ·simp only [Act.put, List.setIfInBounds_toArray, List.set_cons_zero, List.set_cons_succ, i64_w, i32_w]
                        rfl
                       refine pure_ (i := 58) (N := some 80) (v := ?_) (a' := ?_) #[T,T,T,T,T,T,T,T,T,T,T,T,T,T,T,T,T,T,T,T,T,T,T,T,T,T,T,T,T,T,T,T,T,T,T,T,T,T,T,T,T,T,T,T,T,T,T,T,T,T,T,T,T,T,T,T,T,T,T,F,F,F,F,F,F,F,F,F,F,F,F,F,F,F,F] rfl rfl (any_of HT_.out (by kernel_rfl)) (fun _ _ _ h => h) (Or.inl ⟨by rfl, ?_⟩) ?_ ?_
                       rotate_left
                       ·intro w'
                        go_simp
                        with_reducible rfl
                       rotate_left
                       ·simp only [Act.put, List.setIfInBounds_toArray, List.set_cons_zero, List.set_cons_succ, i64_w, i32_w]
                        rfl
                       refine pure_ (i := 59) (N := some 81) (v := ?_) (a' := ?_) #[T,T,T,T,T,T,T,T,T,T,T,T,T,T,T,T,T,T,T,T,T,T,T,T,T,T,T,T,T,T,T,T,T,T,T,T,T,T,T,T,T,T,T,T,T,T,T,T,T,T,T,T,T,T,T,T,T,T,T,T,F,F,F,F,F,F,F,F,F,F,F,F,F,F,F] rfl rfl (any_of HT_.out (by kernel_rfl)) (fun _ _ _ h => h) (Or.inl ⟨by rfl, ?_⟩) ?_ ?_
                       rotate_left
                       ·intro w'
                        go_simp
                        with_reducible rfl
                       rotate_left
                       ·simp only [Act.put, List.setIfInBounds_toArray, List.set_cons_zero, List.set_cons_succ, i64_w, i32_w]
                        rfl
                       refine pure_ (i := 60) (N := some 82) (v := ?_) (a' := ?_) #[T,T,T,T,T,T,T,T,T,T,T,T,T,T,T,T,T,T,T,T,T,T,T,T,T,T,T,T,T,T,T,T,T,T,T,T,T,T,T,T,T,T,T,T,T,T,T,T,T,T,T,T,T,T,T,T,T,T,T,T,T,F,F,F,F,F,F,F,F,F,F,F,F,F,F] rfl rfl (any_of HT_.out (by kernel_rfl)) (fun _ _ _ h => h) (Or.inl ⟨by rfl, ?_⟩) ?_ ?_
                       rotate_left
                       ·intro w'
                        go_simp
                        with_reducible rfl
                       rotate_left
                       ·simp only [Act.put, List.setIfInBounds_toArray, List.set_cons_zero, List.set_cons_succ, i64_w, i32_w]
                        rfl
                       refine pure_ (i := 64) (N := some 86) (v := ?_) (a' := ?_) #[T,T,T,T,T,T,T,T,T,T,T,T,T,T,T,T,T,T,T,T,T,T,T,T,T,T,T,T,T,T,T,T,T,T,T,T,T,T,T,T,T,T,T,T,T,T,T,T,T,T,T,T,T,T,T,T,T,T,T,T,T,F,F,F,T,F,F,F,F,F,F,F,F,F,F] rfl rfl (any_of HT_.out (by kernel_rfl)) (fun _ _ _ h => h) (Or.inl ⟨by rfl, ?_⟩) ?_ ?_
                       rotate_left
                       ·intro w'
                        go_simp
                        with_reducible rfl
                       rotate_left
                       ·simp only [Act.put, List.setIfInBounds_toArray, List.set_cons_zero, List.set_cons_succ, i64_w, i32_w]
                        rfl
                       refine pure_ (i := 65) (N := some 87) (v := ?_) (a' := ?_) #[T,T,T,T,T,T,T,T,T,T,T,T,T,T,T,T,T,T,T,T,T,T,T,T,T,T,T,T,T,T,T,T,T,T,T,T,T,T,T,T,T,T,T,T,T,T,T,T,T,T,T,T,T,T,T,T,T,T,T,T,T,F,F,F,T,T,F,F,F,F,F,F,F,F,F] rfl rfl (any_of HT_.out (by kernel_rfl)) (fun _ _ _ h => h) (Or.inl ⟨by rfl, ?_⟩) ?_ ?_
                       rotate_left
                       ·intro w'
                        go_simp
                        with_reducible rfl
                       rotate_left
                       ·simp only [Act.put, List.setIfInBounds_toArray, List.set_cons_zero, List.set_cons_succ, i64_w, i32_w]
                        rfl
                       refine pure_ (i := 66) (N := some 88) (v := ?_) (a' := ?_) #[T,T,T,T,T,T,T,T,T,T,T,T,T,T,T,T,T,T,T,T,T,T,T,T,T,T,T,T,T,T,T,T,T,T,T,T,T,T,T,T,T,T,T,T,T,T,T,T,T,T,T,T,T,T,T,T,T,T,T,T,T,F,F,F,T,T,T,F,F,F,F,F,F,F,F] rfl rfl (any_of HT_.out (by kernel_rfl)) (fun _ _ _ h => h) (Or.inl ⟨by rfl, ?_⟩) ?_ ?_
                       rotate_left
                       ·intro w'
                        go_simp
                        with_reducible rfl
                       rotate_left
                       ·simp only [Act.put, List.setIfInBounds_toArray, List.set_cons_zero, List.set_cons_succ, i64_w, i32_w]
                        rfl
                       refine pure_ (i := 69) (N := some 91) (v := ?_) (a' := ?_) #[T,T,T,T,T,T,T,T,T,T,T,T,T,T,T,T,T,T,T,T,T,T,T,T,T,T,T,T,T,T,T,T,T,T,T,T,T,T,T,T,T,T,T,T,T,T,T,T,T,T,T,T,T,T,T,T,T,T,T,T,T,F,F,F,T,T,T,F,F,T,F,F,F,F,F] rfl rfl (any_of HT_.out (by kernel_rfl)) (fun _ _ _ h => h) (Or.inl ⟨by rfl, ?_⟩) ?_ ?_
                       rotate_left
                       ·intro w'
                        go_simp
                        with_reducible rfl
                       rotate_left
                       ·simp only [Act.put, List.setIfInBounds_toArray, List.set_cons_zero, List.set_cons_succ, i64_w, i32_w]
                        rfl
                       refine take_ (i := 67) (N := some 89) (v := ?_) (a' := ?_) #[T,T,T,T,T,T,T,T,T,T,T,T,T,T,T,T,T,T,T,T,T,T,T,T,T,T,T,T,T,T,T,T,T,T,T,T,T,T,T,T,T,T,T,T,T,T,T,T,T,T,T,T,T,T,T,T,T,T,T,T,T,F,F,F,T,T,T,T,F,T,F,F,F,F,F] rfl rfl (take_ofW HT_.out HW_.out (by kernel_rfl)) (fun _ _ _ h => h) (Or.inl ⟨by rfl, ?_⟩) hHeld ?_ ?_
                       rotate_left
                       ·rintro w' ⟨s0, s1, s2, s3, s4, s5⟩
                        go_simp
                        with_reducible rfl
                       rotate_left
                       ·simp only [Act.put, List.setIfInBounds_toArray, List.set_cons_zero, List.set_cons_succ, i64_w, i32_w]
                        rfl
                       refine pure_ (i := 68) (N := some 90) (v := ?_) (a' := ?_) #[T,T,T,T,T,T,T,T,T,T,T,T,T,T,T,T,T,T,T,T,T,T,T,T,T,T,T,T,T,T,T,T,T,T,T,T,T,T,T,T,T,T,T,T,T,T,T,T,T,T,T,T,T,T,T,T,T,T,T,T,T,F,F,F,T,T,T,T,T,T,F,F,F,F,F] rfl rfl (any_of HT_.out (by kernel_rfl)) (fun _ _ _ h => h) (Or.inl ⟨by rfl, ?_⟩) ?_ ?_
                       rotate_left
                       ·intro w'
                        go_simp
                        with_reducible rfl
                       rotate_left
                       ·simp only [Act.put, List.setIfInBounds_toArray, List.set_cons_zero, List.set_cons_succ, i64_w, i32_w]
                        rfl
                       refine one_ (i := 61) (N := some 83) #[T,T,T,T,T,T,T,T,T,T,T,T,T,T,T,T,T,T,T,T,T,T,T,T,T,T,T,T,T,T,T,T,T,T,T,T,T,T,T,T,T,T,T,T,T,T,T,T,T,T,T,T,T,T,T,T,T,T,T,T,T,T,F,F,T,T,T,T,T,T,F,F,F,F,F] rfl rfl (one_of HT_.out (by kernel_rfl)) (by decide) (fun K hK => ?_)
                       refine goes_ Tryd.func9 (by kernel_rfl) rfl #[.string a1] (by rfl) rfl rfl (by (try simp only [List.map_toArray, List.map_cons, List.map_nil]); first | done | rfl | (simp only [List.length_drop, List.length_take]; rfl)) ?_
                       with_reducible refine (refs_Encode.calls a1 t119 _ (tabs_below HT.out (by repeat (first | (with_reducible first | exact HB.out | apply below_alloc | apply pw_below_drewN | apply below_drew1) | exact HB.out))) A29.out).mono ?_
                       rintro e w48 ⟨rfl, hb⟩
                       have HS0_ := (hb.cell (World.block_lt_of_cell? _ _ (hHeld.1))).trans (hHeld.1)
                       have HS1_ := (hb.cell (World.block_lt_of_cell? _ _ (hHeld.2.1))).trans (hHeld.2.1)
                       have HS2_ := (hb.cell (World.block_lt_of_cell? _ _ (hHeld.2.2.1))).trans (hHeld.2.2.1)
                       have HS3_ := (hb.cell (World.block_lt_of_cell? _ _ (hHeld.2.2.2.1))).trans (hHeld.2.2.2.1)
                       have HS4_ := (hb.cell (World.block_lt_of_cell? _ _ (hHeld.2.2.2.2.1))).trans (hHeld.2.2.2.2.1)
                       have HS5_ := (hb.cell (World.block_lt_of_cell? _ _ (hHeld.2.2.2.2.2))).trans (hHeld.2.2.2.2.2)
                       refine ⟨_, rfl, ?_⟩
                       have n0_ := Aside0.mk (Kd.R_below (by (with_reducible repeat (first | apply Kd.R_alloc | apply Kd.R_drewN | apply Kd.R_drew)); exact HO104.out) hb)
                       have n1_ := Aside0.mk (Kd.R_below (by (with_reducible repeat (first | apply Kd.R_alloc | apply Kd.R_drewN | apply Kd.R_drew)); exact HO107.out) hb)
                       have n2_ := Aside0.mk (below_step (by repeat (first | (with_reducible first | exact HB.out | apply below_alloc | apply pw_below_drewN | apply below_drew1) | exact HB.out)) hb)
                       clear HO104
                       clear HO107
                       clear HB
                       have HO104 := n0_
                       have HO107 := n1_
                       have HB := n2_
                       clear n0_ n1_ n2_
                       (try clear hb)
                       (try clear hb2)
                       (try clear hk)
                       (try clear hi)
                       refine hK.out _ _ ⟨HS0_, HS1_, HS2_, HS3_, HS4_, HS5_⟩ (fun hHeld => ?_)
                       clear hK K
                       refine norm_ (a' := ?_) ?_ ?_
                       rotate_left
                       ·show Act.put _ (some 83) _ = _
                        simp only [Act.put, List.setIfInBounds_toArray, List.set_cons_zero, List.set_cons_succ, i64_w, i32_w]
                        rfl
                       refine pure_ (i := 62) (N := some 84) (v := ?_) (a' := ?_) #[T,T,T,T,T,T,T,T,T,T,T,T,T,T,T,T,T,T,T,T,T,T,T,T,T,T,T,T,T,T,T,T,T,T,T,T,T,T,T,T,T,T,T,T,T,T,T,T,T,T,T,T,T,T,T,T,T,T,T,T,T,T,T,F,T,T,T,T,T,T,F,F,F,F,F] rfl rfl (any_of HT_.out (by kernel_rfl)) (fun _ _ _ h => h) (Or.inl ⟨by rfl, ?_⟩) ?_ ?_
                       rotate_left
                       ·intro w'
                        go_simp
                        with_reducible rfl
                       rotate_left
                       ·simp only [Act.put, List.setIfInBounds_toArray, List.set_cons_zero, List.set_cons_succ, i64_w, i32_w]
                        rfl
                       refine one_ (i := 63) (N := some 85) #[T,T,T,T,T,T,T,T,T,T,T,T,T,T,T,T,T,T,T,T,T,T,T,T,T,T,T,T,T,T,T,T,T,T,T,T,T,T,T,T,T,T,T,T,T,T,T,T,T,T,T,T,T,T,T,T,T,T,T,T,T,T,T,T,T,T,T,T,T,T,F,F,F,F,F] rfl rfl (one_of HT_.out (by kernel_rfl)) (by decide) (fun K hK => ?_)
                       refine goes_ Tryd.func11 (by kernel_rfl) rfl #[.string ((((⟨#[120]⟩ : ByteArray) ++ ((⟨#[38]⟩ : ByteArray) ++ (rdOf ByteArray.empty y102 (ji5)))) ++ (⟨#[59]⟩ : ByteArray)) ++ t119)] (by rfl) rfl rfl (by (try simp only [List.map_toArray, List.map_cons, List.map_nil]); first | done | (simp only [hji5]; rfl) | rfl | (simp only [List.length_drop, List.length_take]; rfl)) ?_
                       with_reducible refine (refs_Decode.calls ((((⟨#[120]⟩ : ByteArray) ++ ((⟨#[38]⟩ : ByteArray) ++ (rdOf ByteArray.empty y102 (ji5)))) ++ (⟨#[59]⟩ : ByteArray)) ++ t119) t120 _ A31.out).mono ?_
                       rintro e w49 ⟨rfl, hb⟩
                       have HS0_ := (hb.cell (World.block_lt_of_cell? _ _ (hHeld.1))).trans (hHeld.1)
                       have HS1_ := (hb.cell (World.block_lt_of_cell? _ _ (hHeld.2.1))).trans (hHeld.2.1)
                       have HS2_ := (hb.cell (World.block_lt_of_cell? _ _ (hHeld.2.2.1))).trans (hHeld.2.2.1)
                       have HS3_ := (hb.cell (World.block_lt_of_cell? _ _ (hHeld.2.2.2.1))).trans (hHeld.2.2.2.1)
                       have HS4_ := (hb.cell (World.block_lt_of_cell? _ _ (hHeld.2.2.2.2.1))).trans (hHeld.2.2.2.2.1)
                       have HS5_ := (hb.cell (World.block_lt_of_cell? _ _ (hHeld.2.2.2.2.2))).trans (hHeld.2.2.2.2.2)
                       refine ⟨_, rfl, ?_⟩
                       have n0_ := Aside0.mk (Kd.R_below (by (with_reducible repeat (first | apply Kd.R_alloc | apply Kd.R_drewN | apply Kd.R_drew)); exact HO104.out) hb)
                       have n1_ := Aside0.mk (Kd.R_below (by (with_reducible repeat (first | apply Kd.R_alloc | apply Kd.R_drewN | apply Kd.R_drew)); exact HO107.out) hb)
                       have n2_ := Aside0.mk (below_step (by repeat (first | (with_reducible first | exact HB.out | apply below_alloc | apply pw_below_drewN | apply below_drew1) | exact HB.out)) hb)
                       clear HO104
                       clear HO107
                       clear HB
                       have HO104 := n0_
                       have HO107 := n1_
                       have HB := n2_
                       clear n0_ n1_ n2_
                       (try clear hb)
                       (try clear hb2)
                       (try clear hk)
                       (try clear hi)
                       refine hK.out _ _ ⟨HS0_, HS1_, HS2_, HS3_, HS4_, HS5_⟩ (fun hHeld => ?_)
                       clear hK K
                       refine norm_ (a' := ?_) ?_ ?_
                       rotate_left
                       ·show Act.put _ (some 85) _ = _
                        simp only [Act.put, List.setIfInBounds_toArray, List.set_cons_zero, List.set_cons_succ, i64_w, i32_w]
                        rfl
                       refine one_ (i := 70) (N := some 92) #[T,T,T,T,T,T,T,T,T,T,T,T,T,T,T,T,T,T,T,T,T,T,T,T,T,T,T,T,T,T,T,T,T,T,T,T,T,T,T,T,T,T,T,T,T,T,T,T,T,T,T,T,T,T,T,T,T,T,T,T,T,T,T,T,T,T,T,T,T,T,T,F,F,F,F] rfl rfl (one_of HT_.out (by kernel_rfl)) (by decide) (fun K hK => ?_)
                       refine goes_ Tryd.func14 (by kernel_rfl) rfl #[.string a1] (by rfl) rfl rfl (by (try simp only [List.map_toArray, List.map_cons, List.map_nil]); first | done | rfl | (simp only [List.length_drop, List.length_take]; rfl)) ?_
                       with_reducible refine (stoleref1_Norm.calls k a1 t122 _ A33.out).mono ?_
                       rintro e w50 ⟨rfl, hb⟩
                       have HS0_ := (hb.cell (World.block_lt_of_cell? _ _ (hHeld.1))).trans (hHeld.1)
                       have HS1_ := (hb.cell (World.block_lt_of_cell? _ _ (hHeld.2.1))).trans (hHeld.2.1)
                       have HS2_ := (hb.cell (World.block_lt_of_cell? _ _ (hHeld.2.2.1))).trans (hHeld.2.2.1)
                       have HS3_ := (hb.cell (World.block_lt_of_cell? _ _ (hHeld.2.2.2.1))).trans (hHeld.2.2.2.1)
                       have HS4_ := (hb.cell (World.block_lt_of_cell? _ _ (hHeld.2.2.2.2.1))).trans (hHeld.2.2.2.2.1)
                       have HS5_ := (hb.cell (World.block_lt_of_cell? _ _ (hHeld.2.2.2.2.2))).trans (hHeld.2.2.2.2.2)
                       refine ⟨_, rfl, ?_⟩
                       have n0_ := Aside0.mk (Kd.R_below (by (with_reducible repeat (first | apply Kd.R_alloc | apply Kd.R_drewN | apply Kd.R_drew)); exact HO104.out) hb)
                       have n1_ := Aside0.mk (Kd.R_below (by (with_reducible repeat (first | apply Kd.R_alloc | apply Kd.R_drewN | apply Kd.R_drew)); exact HO107.out) hb)
                       have n2_ := Aside0.mk (below_step (by repeat (first | (with_reducible first | exact HB.out | apply below_alloc | apply pw_below_drewN | apply below_drew1) | exact HB.out)) hb)
                       clear HO104
                       clear HO107
                       clear HB
                       have HO104 := n0_
                       have HO107 := n1_
                       have HB := n2_
                       clear n0_ n1_ n2_
                       (try clear hb)
                       (try clear hb2)
                       (try clear hk)
                       (try clear hi)
                       refine hK.out _ _ ⟨HS0_, HS1_, HS2_, HS3_, HS4_, HS5_⟩ (fun hHeld => ?_)
                       clear hK K
                       refine norm_ (a' := ?_) ?_ ?_
                       rotate_left
                       ·show Act.put _ (some 92) _ = _
                        simp only [Act.put, List.setIfInBounds_toArray, List.set_cons_zero, List.set_cons_succ, i64_w, i32_w]
                        rfl
                       refine pure_ (i := 71) (N := some 93) (v := ?_) (a' := ?_) #[T,T,T,T,T,T,T,T,T,T,T,T,T,T,T,T,T,T,T,T,T,T,T,T,T,T,T,T,T,T,T,T,T,T,T,T,T,T,T,T,T,T,T,T,T,T,T,T,T,T,T,T,T,T,T,T,T,T,T,T,T,T,T,T,T,T,T,T,T,T,T,T,F,F,F] rfl rfl (any_of HT_.out (by kernel_rfl)) (fun _ _ _ h => h) (Or.inl ⟨by rfl, ?_⟩) ?_ ?_
                       rotate_left
                       ·intro w'
                        go_simp
                        with_reducible rfl
                       rotate_left
                       ·simp only [Act.put, List.setIfInBounds_toArray, List.set_cons_zero, List.set_cons_succ, i64_w, i32_w]
                        rfl
                       refine pure_ (i := 72) (N := some 94) (v := ?_) (a' := ?_) #[T,T,T,T,T,T,T,T,T,T,T,T,T,T,T,T,T,T,T,T,T,T,T,T,T,T,T,T,T,T,T,T,T,T,T,T,T,T,T,T,T,T,T,T,T,T,T,T,T,T,T,T,T,T,T,T,T,T,T,T,T,T,T,T,T,T,T,T,T,T,T,T,T,F,F] rfl rfl (any_of HT_.out (by kernel_rfl)) (fun _ _ _ h => h) (Or.inl ⟨by rfl, ?_⟩) ?_ ?_
                       rotate_left
                       ·intro w'
                        go_simp
                        with_reducible rfl
                       rotate_left
                       ·simp only [Act.put, List.setIfInBounds_toArray, List.set_cons_zero, List.set_cons_succ, i64_w, i32_w]
                        rfl
                       refine pure_ (i := 73) (N := some 95) (v := ?_) (a' := ?_) #[T,T,T,T,T,T,T,T,T,T,T,T,T,T,T,T,T,T,T,T,T,T,T,T,T,T,T,T,T,T,T,T,T,T,T,T,T,T,T,T,T,T,T,T,T,T,T,T,T,T,T,T,T,T,T,T,T,T,T,T,T,T,T,T,T,T,T,T,T,T,T,T,T,T,F] rfl rfl (any_of HT_.out (by kernel_rfl)) (fun _ _ _ h => h) (Or.inl ⟨by rfl, ?_⟩) ?_ ?_
                       rotate_left
                       ·intro w'
                        go_simp
                        with_reducible rfl
                       rotate_left
                       ·simp only [Act.put, List.setIfInBounds_toArray, List.set_cons_zero, List.set_cons_succ, i64_w, i32_w]
                        rfl
                       refine pure_ (i := 74) (N := some 4) (v := ?_) (a' := ?_) #[T,T,T,T,T,T,T,T,T,T,T,T,T,T,T,T,T,T,T,T,T,T,T,T,T,T,T,T,T,T,T,T,T,T,T,T,T,T,T,T,T,T,T,T,T,T,T,T,T,T,T,T,T,T,T,T,T,T,T,T,T,T,T,T,T,T,T,T,T,T,T,T,T,T,T] rfl rfl (any_of HT_.out (by kernel_rfl)) (fun _ _ _ h => h) (Or.inl ⟨by rfl, ?_⟩) ?_ ?_
                       rotate_left
                       ·intro w'
                        go_simp
                        with_reducible rfl
                       rotate_left
                       ·simp only [Act.put, List.setIfInBounds_toArray, List.set_cons_zero, List.set_cons_succ, i64_w, i32_w]
                        rfl
                       refine done_ (done_of HT_.out (by kernel_rfl)) ?_
                       try go_wp2
                       go_ret
                       exact ⟨by first | rfl | (simp [errW_none, errW_some] <;> rfl) | (simp only [← hji5]; first | rfl | (simp [errW_none, errW_some] <;> rfl)) | (simp [*, errW_none, errW_some] <;> rfl) | (rw [ne_nil_not]; rfl), by repeat (first | (with_reducible first | exact HB.out | apply below_alloc | apply pw_below_drewN | apply below_drew1) | exact HB.out)⟩
                      ·rw [if_neg c34] at H
                       exact absurd H (by simp)
                     ·rw [if_neg c32] at H
                      exact absurd H (by simp)
                    ·rw [if_neg c30] at H
                     exact absurd H (by simp)
                   ·rw [if_neg c28] at H
                    exact absurd H (by simp)
                  ·rw [if_neg c27] at H
                   exact absurd H (by simp)
                 ·rw [if_neg c26] at H
                  have c26b0 : (t116.toList == ((rdOf ByteArray.empty y105 (ji5)) ++ (rdOf ByteArray.empty y105 (ji5))).toList) = false := beq_eq_false_iff_ne.mpr c26
                  have c26b1 : (t116.toList != ((rdOf ByteArray.empty y105 (ji5)) ++ (rdOf ByteArray.empty y105 (ji5))).toList) = true := bne_iff_ne.mpr c26
                  obtain rfl := Option.some.inj H
                  cases hr
                ·rw [if_neg c25] at H
                 exact absurd H (by simp)
               ·rw [if_neg c23] at H
                exact absurd H (by simp)
              ·rw [if_neg c22] at H
               exact absurd H (by simp)
             ·rw [if_neg c21] at H
              have c21b0 : (t114.toList == (((⟨#[38, 65]⟩ : ByteArray) ++ (rdOf ByteArray.empty y102 (ji5))) ++ (⟨#[59]⟩ : ByteArray)).toList) = false := beq_eq_false_iff_ne.mpr c21
              have c21b1 : (t114.toList != (((⟨#[38, 65]⟩ : ByteArray) ++ (rdOf ByteArray.empty y102 (ji5))) ++ (⟨#[59]⟩ : ByteArray)).toList) = true := bne_iff_ne.mpr c21
              obtain rfl := Option.some.inj H
              cases hr
            ·rw [if_neg c19] at H
             exact absurd H (by simp)
           ·rw [if_neg c18] at H
            exact absurd H (by simp)
          ·rw [if_neg c17] at H
           have c17b0 : (t112.toList == (((⟨#[38]⟩ : ByteArray) ++ (rdOf ByteArray.empty y102 (ji5))) ++ (⟨#[32, 59]⟩ : ByteArray)).toList) = false := beq_eq_false_iff_ne.mpr c17
           have c17b1 : (t112.toList != (((⟨#[38]⟩ : ByteArray) ++ (rdOf ByteArray.empty y102 (ji5))) ++ (⟨#[32, 59]⟩ : ByteArray)).toList) = true := bne_iff_ne.mpr c17
           obtain rfl := Option.some.inj H
           cases hr
         ·rw [if_neg c15] at H
          exact absurd H (by simp)
        ·rw [if_neg c14] at H
         have c14b0 : (t111.toList == ((⟨#[38]⟩ : ByteArray) ++ (rdOf ByteArray.empty y102 (ji5))).toList) = false := beq_eq_false_iff_ne.mpr c14
         have c14b1 : (t111.toList != ((⟨#[38]⟩ : ByteArray) ++ (rdOf ByteArray.empty y102 (ji5))).toList) = true := bne_iff_ne.mpr c14
         obtain rfl := Option.some.inj H
         cases hr
       ·rw [if_neg c12] at H
        have c12b0 : (t109.toList == (rdOf ByteArray.empty y105 (ji5)).toList) = false := beq_eq_false_iff_ne.mpr c12
        have c12b1 : (t109.toList != (rdOf ByteArray.empty y105 (ji5)).toList) = true := bne_iff_ne.mpr c12
        obtain rfl := Option.some.inj H
        cases hr
      ·rw [if_neg c11] at H
       exact absurd H (by simp)
     ·rw [if_neg c9] at H
      exact absurd H (by simp)
    ·rw [if_neg c8] at H
     exact absurd H (by simp)
   ·rw [if_neg c7] at H
    exact absurd H (by simp)
  ·rw [if_neg c6] at H
   exact absurd H (by simp)
 ·replace c4 := Bool.eq_false_iff.mpr c4
  subst c4
  have H1 : (some false) = some r := by rw [if_neg (show ¬ (false = true) by decide)] at H; exact H
  clear H
  have H := H1
  clear H1
  obtain rfl := Option.some.inj H
  go_enter Tryd.func6, Tryd.ntmps6
  go_wp2_with (first | ((with_reducible refine gate_callee (f := 13) rfl ?_); refine goesL_ (some 9) rfl rfl Tryd.func13 (by kernel_rfl) rfl #[] rfl (by (try simp only [List.map_toArray, List.map_cons, List.map_nil]); first | done | rfl | (simp only [List.length_drop, List.length_take]; rfl)) ?_; (with_reducible refine (stolelaw2_awake.calls  false _ (tabs_below HT.out (by repeat (first | (with_reducible first | exact HB.out | apply below_alloc | apply pw_below_drewN | apply below_drew1) | exact HB.out))) A3.out).mono ?_); rintro e w106 ⟨rfl, hb⟩; refine ⟨_, rfl, ?_⟩; have n0_ := Aside0.mk (below_step (by repeat (first | (with_reducible first | exact HB.out | apply below_alloc | apply pw_below_drewN | apply below_drew1) | exact HB.out)) hb); clear HB; have HB := n0_; clear n0_; (try clear hb); (try clear hb2); (try clear hk); (try clear hi)))
  go_ret
  exact ⟨by first | rfl | (simp [errW_none, errW_some] <;> rfl) | (simp [*, errW_none, errW_some] <;> rfl) | (rw [ne_nil_not]; rfl), by repeat (first | (with_reducible first | exact HB.out | apply below_alloc | apply pw_below_drewN | apply below_drew1) | exact HB.out)⟩

/-- THE ONE PURE STATEMENT of stolelaw2_RefNames: yours. -/
theorem stolelaw2_RefNames.calls (k : Nat) (a0 : Int) (a1 : ByteArray) (_ : Bool) (w : World) (hT : Tabs w) (h : stolelaw2_RefNames.f k a0 a1 = some true) :
  Calls Tryd.prog 6 #[.int .i64 a0, .string a1] w fun e w' => e = .returned (.bool true) ∧ Below w.heap.size w w' :=
  stolelaw2_RefNames.callsT k a0 a1 true w rfl hT h
def stolelaw2_RefNames.Pure : Prop := ∀ (a0 : Int) (a1 : ByteArray), (Lit.int .i64 a0).wf = true → a1.size ≤ 140737488351232 → ∃ k, stolelaw2_RefNames.f k a0 a1 = some true
theorem stolelaw2_RefNames.walk (P : stolelaw2_RefNames.Pure) (a0 : Int) (a1 : ByteArray) (w : World) (hT : Tabs w) (w0 : (Lit.int .i64 a0).wf = true) (w1 : a1.size ≤ 140737488351232) :
  Calls Tryd.prog 6 #[.int .i64 a0, .string a1] w fun e w' => e = .returned (.bool true) ∧ Below w.heap.size w w' := by
 obtain ⟨k, h⟩ := P a0 a1 w0 w1
 refine (stolelaw2_RefNames.calls k a0 a1 true w hT h).mono ?_
 rintro e w' ⟨rfl, hd⟩
 exact ⟨rfl, hd⟩

end Go.Proofs.YtfabijpafbhdbaaDoor.XRN
