/- Laid by xprint.py, a program of this session over the kit's print: for each Go function one Lean function of the same answers, and the walk that shows it. audit.Schemes: walked by hand (the print falls at a read of what was made, behind a store). Laid by xprint.py, a program of this session over the kit's print: for each Go function one Lean function of the same answers, and the walk that shows it. -/
import Derived.Test.YtfmcdlbbbmeolaaGreatDoorU0
import Derived.Test.YtfmcdlbbbmeolaaGreatDoorU18
import Derived.Test.YtfmcdlbbbmeolaaGreatDoorU17
import Derived.Test.YtfmcdlbbbmeolaaGreatDoorProg
import Derived.Below
import Derived.Deep.Draws
import Derived.Deep.AppendLies
import Derived.Maps.AppendAt
import Derived.OwnWalk
import Derived.Laws.BytesArg
import Derived.Laws.MakeOwn
import Derived.Laws.OwnMore
import Derived.Deep.OwnRows
import Derived.Tactics
import Derived.Lib.ConvBytes
import Derived.Laws.Slices
import Derived.WalkKit
import Derived.KernelRfl
import Derived.RowKit3
import Derived.Deep.LoopGhost
import Derived.Deep.QuietTactic
import Derived.BigQuiet
import Derived.WideLaws
import Derived.Deep.DeepCutAuto
import Derived.Deep.CutBlock
import Derived.Deep.RegionHeld3
import Derived.Laws.Rows
import Derived.Lib.AppendStr
import Derived.ArgAppend
import Derived.Laws.IdiomCopy
import Derived.OrdersHeld
import Derived.Laws.BitsLemmas
import Derived.RowKit
import Derived.Test.YtfmcdlbbbmeolaaGreatDoorY0
import Derived.Test.YtfmcdlbbbmeolaaGreatDoorY1
import Derived.Test.YtfmcdlbbbmeolaaGreatDoorY2
import Derived.Test.YtfmcdlbbbmeolaaGreatDoorU15
import Derived.Test.YtfmcdlbbbmeolaaGreatDoorU2
section
namespace Go.Proofs.YtfmcdlbbbmeolaaGreatDoor.XQ
open Go.RowKit Go.Proofs.YtfmcdlbbbmeolaaGreatDoor.ExtP Go.Proofs.YtfmcdlbbbmeolaaGreatDoor.XP Go.Proofs.YtfmcdlbbbmeolaaGreatDoor.XK Go.Proofs.YtfmcdlbbbmeolaaGreatDoorW.PrintWords Go.Proofs.YtfmcdlbbbmeolaaGreatDoorW.PrintLast Go.Proofs.YtfmcdlbbbmeolaaGreatDoorW.PrintMore
attribute [local go_sem] max2_int min2_int max_two min_two max_three min_three max_four min_four   -- for this text's walks alone
set_option linter.unusedVariables false
set_option linter.unusedSimpArgs false
-- GIVEN BY HAND: function 21 (stolelaw0_Num)
-- NOT PRINTED: function 179 (abi_NoEscape)
-- NOT PRINTED: function 128 (strings_Builder_copyCheck)
-- NOT PRINTED: function 66 (strings_Builder_WriteString)
-- NOT PRINTED: function 68 (strings_Builder_String)
-- NOT PRINTED: function 241 (bytealg_IndexByteString)
-- NOT PRINTED: function 218 (stringslite_IndexByte)
-- NOT PRINTED: function 242 (bytealg_IndexString)
-- NOT PRINTED: function 243 (bytealg_Cutover)
-- NOT PRINTED: function 256 (bytealg_hashStr_string)
-- NOT PRINTED: function 244 (bytealg_IndexRabinKarp_string)
-- NOT PRINTED: function 221 (stringslite_Index)
-- NOT PRINTED: function 189 (strings_Index)
-- NOT PRINTED: function 219 (utf8_RuneCountInString)
-- NOT PRINTED: function 220 (bytealg_CountString)
-- NOT PRINTED: function 188 (strings_Count)
-- NOT PRINTED: function 245 (bytealg_MakeNoZero)
-- NOT PRINTED: function 228 (strings_Builder_grow)
-- NOT PRINTED: function 202 (strings_Builder_Grow)
-- NOT PRINTED: function 229 (utf8_decodeRuneInStringSlow)
-- NOT PRINTED: function 203 (utf8_DecodeRuneInString)
-- NOT PRINTED: function 150 (strings_Replace)
-- NOT PRINTED: function 84 (strings_ReplaceAll)
-- NOT PRINTED: function 45 (utf_Lines)
-- NOT PRINTED: function 46 (tok_Start)
-- NOT PRINTED: function 151 (tok_at)
-- NOT PRINTED: function 85 (tok_data)
-- NOT PRINTED: function 183 (utf_LowerByte)
-- NOT PRINTED: function 132 (utf_Letter)
-- NOT PRINTED: function 152 (tok_more)
-- NOT PRINTED: function 86 (tok_tagOpen)
-- NOT PRINTED: function 87 (tok_endOpen)
-- NOT PRINTED: function 156 (tok_blank)
-- NOT PRINTED: function 167 (elem_Kind)
-- NOT PRINTED: function 157 (tok_closes)
-- NOT PRINTED: function 159 (tok_in)
-- NOT PRINTED: function 153 (tok_between)
-- NOT PRINTED: function 88 (tok_tagName)
-- NOT PRINTED: function 154 (tok_attr)
-- NOT PRINTED: function 89 (tok_begins)
-- NOT PRINTED: function 155 (tok_names)
-- NOT PRINTED: function 90 (tok_attrName)
-- NOT PRINTED: function 91 (tok_afterName)
-- NOT PRINTED: function 92 (tok_beforeValue)
-- NOT PRINTED: function 158 (tok_quoted)
-- NOT PRINTED: function 93 (tok_double)
-- NOT PRINTED: function 94 (tok_single)
-- NOT PRINTED: function 95 (tok_bare)
-- NOT PRINTED: function 160 (tok_bangs)
-- NOT PRINTED: function 96 (tok_bang)
-- NOT PRINTED: function 97 (tok_bangDash)
-- NOT PRINTED: function 161 (tok_either)
-- NOT PRINTED: function 98 (tok_comment)
-- NOT PRINTED: function 99 (tok_commentDash)
-- NOT PRINTED: function 100 (tok_commentEnd)
-- NOT PRINTED: function 101 (tok_bogus)
-- NOT PRINTED: function 162 (tok_held)
-- NOT PRINTED: function 102 (tok_holds)
-- NOT PRINTED: function 103 (tok_heldLt)
-- NOT PRINTED: function 163 (tok_reads)
-- NOT PRINTED: function 104 (tok_heldSlash)
-- NOT PRINTED: function 105 (tok_heldName)
-- NOT PRINTED: function 47 (tok_Step)
-- NOT PRINTED: function 106 (tok_ends)
-- NOT PRINTED: function 185 (strings_IndexByte)
/-! ### stringslite_HasPrefix: function 186 -/
def stringslite_HasPrefix.f (a0 : ByteArray) (a1 : ByteArray) : Option (Bool) := if (a0.size : Int) ≥ (a1.size : Int) then (if 0 ≤ (a1.size : Int) then (if (a1.size : Int) ≤ (a0.size : Int) then (some ((a0.extract 0 ((a1.size : Int) : Int).toNat).toList == a1.toList)) else (none)) else (none)) else (some false)
set_option maxHeartbeats 8000000 in
set_option maxRecDepth 100000 in
theorem stringslite_HasPrefix.calls (a0 : ByteArray) (a1 : ByteArray) (r : Bool) (w : World) (h : stringslite_HasPrefix.f a0 a1 = some r) :
  Calls Tryz.prog 186 #[.string a0, .string a1] w fun e w' => e = .returned (.bool r) ∧ Drawn0 w w' := by
 have H : (if (a0.size : Int) ≥ (a1.size : Int) then (if 0 ≤ (a1.size : Int) then (if (a1.size : Int) ≤ (a0.size : Int) then (some ((a0.extract 0 ((a1.size : Int) : Int).toNat).toList == a1.toList)) else (none)) else (none)) else (some false)) = some r := h
 clear h
 by_cases c3 : (a0.size : Int) ≥ (a1.size : Int)
 ·rw [if_pos c3] at H
  have c3b0 : decide ((a1.size : Int) ≤ (a0.size : Int)) = true := decide_eq_true c3
  have c3b1 : decide (a1.size ≤ a0.size) = true := decide_eq_true (Int.ofNat_le.mp c3)
  clear c3
  by_cases c4 : 0 ≤ (a1.size : Int)
  ·rw [if_pos c4] at H
   have c4b0 := eq_true c4
   have c4b1 : decide (0 ≤ (a1.size : Int)) = true := decide_eq_true c4
   clear c4
   by_cases c5 : (a1.size : Int) ≤ (a0.size : Int)
   ·rw [if_pos c5] at H
    have c5b0 := eq_true c5
    have c5b1 : decide ((a1.size : Int) ≤ (a0.size : Int)) = true := decide_eq_true c5
    clear c5
    obtain rfl := Option.some.inj H
    go_enter Tryz.func186, Tryz.ntmps186
    go_wp2
    go_ret
    exact ⟨by first | rfl | (simp; done) | (simp [*]; done), by repeat (first | exact Drawn0.refl _ | apply Drawn0.step)⟩
   ·rw [if_neg c5] at H
    exact absurd H (by simp)
  ·rw [if_neg c4] at H
   exact absurd H (by simp)
 ·rw [if_neg c3] at H
  have c3b0 : decide ((a1.size : Int) ≤ (a0.size : Int)) = false := decide_eq_false c3
  have c3b1 : decide (a1.size ≤ a0.size) = false := decide_eq_false (fun h => c3 (Int.ofNat_le.mpr h))
  clear c3
  obtain rfl := Option.some.inj H
  go_enter Tryz.func186, Tryz.ntmps186
  go_wp2
  go_ret
  exact ⟨by first | rfl | (simp; done) | (simp [*]; done), by repeat (first | exact Drawn0.refl _ | apply Drawn0.step)⟩
/-! ### strings_HasPrefix: function 136 -/
def strings_HasPrefix.f (a0 : ByteArray) (a1 : ByteArray) : Option (Bool) := (stringslite_HasPrefix.f a0 a1).bind fun t101 => (some t101)
set_option maxHeartbeats 8000000 in
set_option maxRecDepth 100000 in
theorem strings_HasPrefix.calls (a0 : ByteArray) (a1 : ByteArray) (r : Bool) (w : World) (h : strings_HasPrefix.f a0 a1 = some r) :
  Calls Tryz.prog 136 #[.string a0, .string a1] w fun e w' => e = .returned (.bool r) ∧ Drawn0 w w' := by
 have H : ((stringslite_HasPrefix.f a0 a1).bind fun t101 => (some t101)) = some r := h
 clear h
 replace H := Option.bind_eq_some_iff.mp H
 obtain ⟨t101, A30, H⟩ := H
 replace H : (some t101) = some r := H
 have A3 := Aside0.mk A30
 clear A30
 obtain rfl := Option.some.inj H
 go_enter Tryz.func136, Tryz.ntmps136
 go_wp2_with (first | ((with_reducible refine gate_callee (f := 186) rfl ?_); refine goesL_ (some 7) rfl rfl Tryz.func186 (by kernel_rfl) rfl #[.string a0, .string a1] rfl (by (try simp only [List.map_toArray, List.map_cons, List.map_nil]); first | done | rfl | (simp only [List.length_drop, List.length_take]; rfl)) ?_; (with_reducible refine (stringslite_HasPrefix.calls a0 a1 t101 _ A3.out).mono ?_); rintro e w' ⟨rfl, ⟨nd, rfl⟩⟩; refine ⟨_, rfl, ?_⟩))
 go_ret
 exact ⟨by first | rfl | (simp; done) | (simp [*]; done), by repeat (first | exact Drawn0.refl _ | apply Drawn0.step)⟩
-- NOT PRINTED: function 184 (utf_Digit)
-- NOT PRINTED: function 246 (refs_digit)
-- NOT PRINTED: function 247 (utf8_ValidRune)
-- NOT PRINTED: function 231 (refs_numbered)
-- NOT PRINTED: function 232 (refs_named)
-- NOT PRINTED: function 206 (refs_meant)
-- NOT PRINTED: function 207 (strings_Builder_WriteByte)
-- NOT PRINTED: function 168 (refs_Decode)
-- NOT PRINTED: function 230 (api_Attr_230)
-- NOT PRINTED: function 205 (api_Attr_205)
-- NOT PRINTED: function 164 (tok_reader_kept)
-- NOT PRINTED: function 111 (tok_reader_text)
-- NOT PRINTED: function 165 (tok_reader_told)
-- NOT PRINTED: function 107 (tok_reader_tag)
-- NOT PRINTED: function 108 (tok_remarks)
-- NOT PRINTED: function 109 (tok_reader_comment)
-- NOT PRINTED: function 166 (tok_reader_last)
-- NOT PRINTED: function 110 (tok_reader_reads)
-- NOT PRINTED: function 48 (tok_reader_takes)
-- NOT PRINTED: function 49 (tok_reader_rest)
-- GIVEN BY HAND: function 18 (tok_Tokens)
-- NOT PRINTED: function 175 (tree_attrs)
-- NOT PRINTED: function 120 (tree_may)
-- NOT PRINTED: function 176 (tree_builder_inner)
-- NOT PRINTED: function 122 (tree_builder_node)
-- NOT PRINTED: function 121 (tree_builder_text)
-- NOT PRINTED: function 177 (api_Attr_177)
-- NOT PRINTED: function 123 (tree_builder_start)
-- NOT PRINTED: function 124 (tree_builder_end)
-- GIVEN BY HAND: function 63 (tree_Build)
-- GIVEN BY HAND: function 27 (page_Parse)
-- NOT PRINTED: function 127 (page_plain)
-- GIVEN BY HAND: function 65 (page_may)
-- NOT PRINTED: function 212 (strconv_small)
-- NOT PRINTED: function 233 (strconv_log10Pow2)
-- NOT PRINTED: function 234 (bits_Len64)
-- NOT PRINTED: function 235 (strconv_bool2_int)
-- NOT PRINTED: function 213 (strconv_numDigits)
-- NOT PRINTED: function 214 (strconv_formatBase10)
-- NOT PRINTED: function 236 (strconv_isPowerOfTwo)
-- NOT PRINTED: function 248 (bits_TrailingZeros32)
-- NOT PRINTED: function 249 (bits_TrailingZeros64)
-- NOT PRINTED: function 237 (bits_TrailingZeros)
-- NOT PRINTED: function 215 (strconv_formatBits)
-- NOT PRINTED: function 180 (strconv_FormatInt)
-- NOT PRINTED: function 129 (strconv_Itoa_129)
-- NOT PRINTED: function 67 (strconv_Itoa_67)
-- GIVEN BY HAND: function 29 (page_Skeleton)
/-! ### audit_Alike: function 37 -/
def audit_Alike.f (a0 : ByteArray) (a1 : ByteArray) : Option (Bool × Int) := (page_Parse.f a0).bind fun bt102 => (if bt102.2 = 0 then ((page_Parse.f a1).bind fun bt106 => (if bt106.2 = 0 then ((page_Skeleton.f bt102.1).bind fun bt110 => ((page_Skeleton.f bt106.1).bind fun bt112 => (some ((bt110.1.toList == bt112.1.toList), 0)))) else (some (false, bt106.2)))) else (some (false, bt102.2)))
set_option maxHeartbeats 8000000 in
set_option maxRecDepth 100000 in
theorem audit_Alike.calls (a0 : ByteArray) (a1 : ByteArray) (r1 : Bool) (r2 : Int) (w : World) (hT : Tabs w) (h : audit_Alike.f a0 a1 = some (r1, r2)) :
  Calls Tryz.prog 37 #[.string a0, .string a1] w fun e w' => e = .returned (.tuple #[.bool r1, .int .i64 r2]) ∧ Below w.heap.size w w' := by
 have HT := Aside0.mk hT
 clear hT
 have HB := Aside0.mk (Below.refl w.heap.size w)
 have H : ((page_Parse.f a0).bind fun bt102 => (if bt102.2 = 0 then ((page_Parse.f a1).bind fun bt106 => (if bt106.2 = 0 then ((page_Skeleton.f bt102.1).bind fun bt110 => ((page_Skeleton.f bt106.1).bind fun bt112 => (some ((bt110.1.toList == bt112.1.toList), 0)))) else (some (false, bt106.2)))) else (some (false, bt102.2)))) = some (r1, r2) := h
 clear h
 replace H := Option.bind_eq_some_iff.mp H
 obtain ⟨⟨t102, t103⟩, A30, H⟩ := H
 replace H : (if t103 = 0 then ((page_Parse.f a1).bind fun bt106 => (if bt106.2 = 0 then ((page_Skeleton.f t102).bind fun bt110 => ((page_Skeleton.f bt106.1).bind fun bt112 => (some ((bt110.1.toList == bt112.1.toList), 0)))) else (some (false, bt106.2)))) else (some (false, t103))) = some (r1, r2) := H
 have A3 := Aside0.mk A30
 clear A30
 by_cases c4 : t103 = 0
 ·rw [if_pos c4] at H
  have c4b0 : (t103 == 0) = true := beq_iff_eq.mpr c4
  have c4b1 : (t103 != 0) = false := bne_eq_false_iff_eq.mpr c4
  clear c4
  replace H := Option.bind_eq_some_iff.mp H
  obtain ⟨⟨t106, t107⟩, A50, H⟩ := H
  replace H : (if t107 = 0 then ((page_Skeleton.f t102).bind fun bt110 => ((page_Skeleton.f t106).bind fun bt112 => (some ((bt110.1.toList == bt112.1.toList), 0)))) else (some (false, t107))) = some (r1, r2) := H
  have A5 := Aside0.mk A50
  clear A50
  by_cases c6 : t107 = 0
  ·rw [if_pos c6] at H
   have c6b0 : (t107 == 0) = true := beq_iff_eq.mpr c6
   have c6b1 : (t107 != 0) = false := bne_eq_false_iff_eq.mpr c6
   clear c6
   replace H := Option.bind_eq_some_iff.mp H
   obtain ⟨⟨t110, t111⟩, A70, H⟩ := H
   replace H : ((page_Skeleton.f t106).bind fun bt112 => (some ((t110.toList == bt112.1.toList), 0))) = some (r1, r2) := H
   have A7 := Aside0.mk A70
   clear A70
   replace H := Option.bind_eq_some_iff.mp H
   obtain ⟨⟨t112, t113⟩, A80, H⟩ := H
   replace H : (some ((t110.toList == t112.toList), 0)) = some (r1, r2) := H
   have A8 := Aside0.mk A80
   clear A80
   simp only [Option.some.injEq, Prod.mk.injEq] at H
   obtain ⟨rfl, rfl⟩ := H
   go_enter Tryz.func37, Tryz.ntmps37
   go_wp2_with (first | ((with_reducible refine gate_callee (f := 27) rfl ?_); refine goesL_ (some 15) rfl rfl Tryz.func27 (by kernel_rfl) rfl #[.string a0] rfl (by (try simp only [List.map_toArray, List.map_cons, List.map_nil]); first | done | rfl | (simp only [List.length_drop, List.length_take]; rfl)) ?_; (with_reducible refine (page_Parse.calls a0 t102 t103 _ (tabs_below HT.out (by repeat (first | (with_reducible first | exact HB.out | apply below_alloc | apply pw_below_drewN | apply below_drew1) | exact HB.out))) A3.out).mono ?_); rintro e w9 ⟨v104, rfl, ho0, hb⟩; refine ⟨_, rfl, ?_⟩; have n0_ := Aside0.mk (Kd.S_lower ho0 (below_size (by repeat (first | (with_reducible first | exact HB.out | apply below_alloc | apply pw_below_drewN | apply below_drew1) | exact HB.out)))); have n1_ := Aside0.mk (below_step (by repeat (first | (with_reducible first | exact HB.out | apply below_alloc | apply pw_below_drewN | apply below_drew1) | exact HB.out)) hb); clear HB; have HO105 := n0_; have HB := n1_; clear n0_ n1_; (try clear hb); (try clear hb2); (try clear hk); (try clear hi); (try clear ho0)) | ((with_reducible refine gate_callee (f := 27) rfl ?_); refine goesL_ (some 23) rfl rfl Tryz.func27 (by kernel_rfl) rfl #[.string a1] rfl (by (try simp only [List.map_toArray, List.map_cons, List.map_nil]); first | done | rfl | (simp only [List.length_drop, List.length_take]; rfl)) ?_; (with_reducible refine (page_Parse.calls a1 t106 t107 _ (tabs_below HT.out (by repeat (first | (with_reducible first | exact HB.out | apply below_alloc | apply pw_below_drewN | apply below_drew1) | exact HB.out))) A5.out).mono ?_); rintro e w10 ⟨v108, rfl, ho0, hb⟩; refine ⟨_, rfl, ?_⟩; have n0_ := Aside0.mk (Kd.S_elder' (by (with_reducible repeat (first | apply Kd.S_alloc | apply Kd.S_drewN | apply Kd.S_drew)); exact HO105.out) (Kd.S_base ho0) hb); have n1_ := Aside0.mk (Kd.S_lower (Kd.S_new' ho0 (Kd.S_lt (by (with_reducible repeat (first | apply Kd.S_alloc | apply Kd.S_drewN | apply Kd.S_drew)); exact HO105.out))) (below_size (by repeat (first | (with_reducible first | exact HB.out | apply below_alloc | apply pw_below_drewN | apply below_drew1) | exact HB.out)))); have n2_ := Aside0.mk (below_step (by repeat (first | (with_reducible first | exact HB.out | apply below_alloc | apply pw_below_drewN | apply below_drew1) | exact HB.out)) hb); clear HO105; clear HB; have HO105 := n0_; have HO109 := n1_; have HB := n2_; clear n0_ n1_ n2_; (try clear hb); (try clear hb2); (try clear hk); (try clear hi); (try clear ho0); obtain ⟨Ao11, co11, eo11⟩ := Kd.S_slice HO105.out; subst eo11) | ((with_reducible refine gate_callee (f := 29) rfl ?_); refine goesL_ (some 31) rfl rfl Tryz.func29 (by kernel_rfl) rfl #[.slice Ao11 t102.length co11] rfl (by (try simp only [List.map_toArray, List.map_cons, List.map_nil]); first | done | rfl | (simp only [List.length_drop, List.length_take]; rfl)) ?_; (with_reducible refine (page_Skeleton.calls _ _ t102 t110 t111 _ (tabs_below HT.out (by repeat (first | (with_reducible first | exact HB.out | apply below_alloc | apply pw_below_drewN | apply below_drew1) | exact HB.out))) ?side1 ?side2 A7.out).mono ?_); (case side1 => repeat (first | exact (Kd.S_reads' HO105.out).2.2 | (with_reducible refine Kd.C_alloc ?_ _) | (with_reducible refine Kd.C_drewN ?_ _) | (with_reducible refine Kd.C_drew ?_))); (case side2 => exact (Kd.S_reads' HO105.out).2.1); rintro e w12 ⟨rfl, hb⟩; refine ⟨_, rfl, ?_⟩; have n0_ := Aside0.mk (Kd.S_below (by (with_reducible repeat (first | apply Kd.S_alloc | apply Kd.S_drewN | apply Kd.S_drew)); exact HO105.out) hb); have n1_ := Aside0.mk (Kd.S_below (by (with_reducible repeat (first | apply Kd.S_alloc | apply Kd.S_drewN | apply Kd.S_drew)); exact HO109.out) hb); have n2_ := Aside0.mk (below_step (by repeat (first | (with_reducible first | exact HB.out | apply below_alloc | apply pw_below_drewN | apply below_drew1) | exact HB.out)) hb); clear HO105; clear HO109; clear HB; have HO105 := n0_; have HO109 := n1_; have HB := n2_; clear n0_ n1_ n2_; (try clear hb); (try clear hb2); (try clear hk); (try clear hi); obtain ⟨Ao13, co13, eo13⟩ := Kd.S_slice HO109.out; subst eo13) | ((with_reducible refine gate_callee (f := 29) rfl ?_); refine goesL_ (some 36) rfl rfl Tryz.func29 (by kernel_rfl) rfl #[.slice Ao13 t106.length co13] rfl (by (try simp only [List.map_toArray, List.map_cons, List.map_nil]); first | done | rfl | (simp only [List.length_drop, List.length_take]; rfl)) ?_; (with_reducible refine (page_Skeleton.calls _ _ t106 t112 t113 _ (tabs_below HT.out (by repeat (first | (with_reducible first | exact HB.out | apply below_alloc | apply pw_below_drewN | apply below_drew1) | exact HB.out))) ?side1 ?side2 A8.out).mono ?_); (case side1 => repeat (first | exact (Kd.S_reads' HO109.out).2.2 | (with_reducible refine Kd.C_alloc ?_ _) | (with_reducible refine Kd.C_drewN ?_ _) | (with_reducible refine Kd.C_drew ?_))); (case side2 => exact (Kd.S_reads' HO109.out).2.1); rintro e w14 ⟨rfl, hb⟩; refine ⟨_, rfl, ?_⟩; have n0_ := Aside0.mk (Kd.S_below (by (with_reducible repeat (first | apply Kd.S_alloc | apply Kd.S_drewN | apply Kd.S_drew)); exact HO105.out) hb); have n1_ := Aside0.mk (Kd.S_below (by (with_reducible repeat (first | apply Kd.S_alloc | apply Kd.S_drewN | apply Kd.S_drew)); exact HO109.out) hb); have n2_ := Aside0.mk (below_step (by repeat (first | (with_reducible first | exact HB.out | apply below_alloc | apply pw_below_drewN | apply below_drew1) | exact HB.out)) hb); clear HO105; clear HO109; clear HB; have HO105 := n0_; have HO109 := n1_; have HB := n2_; clear n0_ n1_ n2_; (try clear hb); (try clear hb2); (try clear hk); (try clear hi)))
   go_ret2
   exact ⟨by first | rfl | (simp [errW_none, errW_some] <;> rfl) | (simp [*, errW_none, errW_some] <;> rfl), by repeat (first | (with_reducible first | exact HB.out | apply below_alloc | apply pw_below_drewN | apply below_drew1) | exact HB.out)⟩
  ·rw [if_neg c6] at H
   have c6b0 : (t107 == 0) = false := beq_eq_false_iff_ne.mpr c6
   have c6b1 : (t107 != 0) = true := bne_iff_ne.mpr c6
   simp only [Option.some.injEq, Prod.mk.injEq] at H
   obtain ⟨rfl, rfl⟩ := H
   go_enter Tryz.func37, Tryz.ntmps37
   go_wp2_with (first | ((with_reducible refine gate_callee (f := 27) rfl ?_); refine goesL_ (some 15) rfl rfl Tryz.func27 (by kernel_rfl) rfl #[.string a0] rfl (by (try simp only [List.map_toArray, List.map_cons, List.map_nil]); first | done | rfl | (simp only [List.length_drop, List.length_take]; rfl)) ?_; (with_reducible refine (page_Parse.calls a0 t102 t103 _ (tabs_below HT.out (by repeat (first | (with_reducible first | exact HB.out | apply below_alloc | apply pw_below_drewN | apply below_drew1) | exact HB.out))) A3.out).mono ?_); rintro e w15 ⟨v104, rfl, ho0, hb⟩; refine ⟨_, rfl, ?_⟩; have n0_ := Aside0.mk (Kd.S_lower ho0 (below_size (by repeat (first | (with_reducible first | exact HB.out | apply below_alloc | apply pw_below_drewN | apply below_drew1) | exact HB.out)))); have n1_ := Aside0.mk (below_step (by repeat (first | (with_reducible first | exact HB.out | apply below_alloc | apply pw_below_drewN | apply below_drew1) | exact HB.out)) hb); clear HB; have HO105 := n0_; have HB := n1_; clear n0_ n1_; (try clear hb); (try clear hb2); (try clear hk); (try clear hi); (try clear ho0)) | ((with_reducible refine gate_callee (f := 27) rfl ?_); refine goesL_ (some 23) rfl rfl Tryz.func27 (by kernel_rfl) rfl #[.string a1] rfl (by (try simp only [List.map_toArray, List.map_cons, List.map_nil]); first | done | rfl | (simp only [List.length_drop, List.length_take]; rfl)) ?_; (with_reducible refine (page_Parse.calls a1 t106 t107 _ (tabs_below HT.out (by repeat (first | (with_reducible first | exact HB.out | apply below_alloc | apply pw_below_drewN | apply below_drew1) | exact HB.out))) A5.out).mono ?_); rintro e w16 ⟨v108, rfl, ho0, hb⟩; refine ⟨_, rfl, ?_⟩; have n0_ := Aside0.mk (Kd.S_elder' (by (with_reducible repeat (first | apply Kd.S_alloc | apply Kd.S_drewN | apply Kd.S_drew)); exact HO105.out) (Kd.S_base ho0) hb); have n1_ := Aside0.mk (Kd.S_lower (Kd.S_new' ho0 (Kd.S_lt (by (with_reducible repeat (first | apply Kd.S_alloc | apply Kd.S_drewN | apply Kd.S_drew)); exact HO105.out))) (below_size (by repeat (first | (with_reducible first | exact HB.out | apply below_alloc | apply pw_below_drewN | apply below_drew1) | exact HB.out)))); have n2_ := Aside0.mk (below_step (by repeat (first | (with_reducible first | exact HB.out | apply below_alloc | apply pw_below_drewN | apply below_drew1) | exact HB.out)) hb); clear HO105; clear HB; have HO105 := n0_; have HO109 := n1_; have HB := n2_; clear n0_ n1_ n2_; (try clear hb); (try clear hb2); (try clear hk); (try clear hi); (try clear ho0)))
   go_ret2
   exact ⟨by first | rfl | (simp [errW_none, errW_some] <;> rfl) | (simp [*, errW_none, errW_some] <;> rfl), by repeat (first | (with_reducible first | exact HB.out | apply below_alloc | apply pw_below_drewN | apply below_drew1) | exact HB.out)⟩
 ·rw [if_neg c4] at H
  have c4b0 : (t103 == 0) = false := beq_eq_false_iff_ne.mpr c4
  have c4b1 : (t103 != 0) = true := bne_iff_ne.mpr c4
  simp only [Option.some.injEq, Prod.mk.injEq] at H
  obtain ⟨rfl, rfl⟩ := H
  go_enter Tryz.func37, Tryz.ntmps37
  go_wp2_with (first | ((with_reducible refine gate_callee (f := 27) rfl ?_); refine goesL_ (some 15) rfl rfl Tryz.func27 (by kernel_rfl) rfl #[.string a0] rfl (by (try simp only [List.map_toArray, List.map_cons, List.map_nil]); first | done | rfl | (simp only [List.length_drop, List.length_take]; rfl)) ?_; (with_reducible refine (page_Parse.calls a0 t102 t103 _ (tabs_below HT.out (by repeat (first | (with_reducible first | exact HB.out | apply below_alloc | apply pw_below_drewN | apply below_drew1) | exact HB.out))) A3.out).mono ?_); rintro e w17 ⟨v104, rfl, ho0, hb⟩; refine ⟨_, rfl, ?_⟩; have n0_ := Aside0.mk (Kd.S_lower ho0 (below_size (by repeat (first | (with_reducible first | exact HB.out | apply below_alloc | apply pw_below_drewN | apply below_drew1) | exact HB.out)))); have n1_ := Aside0.mk (below_step (by repeat (first | (with_reducible first | exact HB.out | apply below_alloc | apply pw_below_drewN | apply below_drew1) | exact HB.out)) hb); clear HB; have HO105 := n0_; have HB := n1_; clear n0_ n1_; (try clear hb); (try clear hb2); (try clear hk); (try clear hi); (try clear ho0)))
  go_ret2
  exact ⟨by first | rfl | (simp [errW_none, errW_some] <;> rfl) | (simp [*, errW_none, errW_some] <;> rfl), by repeat (first | (with_reducible first | exact HB.out | apply below_alloc | apply pw_below_drewN | apply below_drew1) | exact HB.out)⟩
-- GIVEN BY HAND: function 34 (stolelaw0_SameTexts)
-- NOT PRINTED: function 181 (strings_NewReplacer)
-- NOT PRINTED: function 250 (atomic_LoadUint32)
-- NOT PRINTED: function 238 (atomic_Bool_Load)
-- NOT PRINTED: function 263 (race_Disable)
-- NOT PRINTED: function 264 (atomic_CompareAndSwapInt32)
-- NOT PRINTED: function 265 (race_Enable)
-- NOT PRINTED: function 266 (race_Acquire)
-- NOT PRINTED: function 269 (atomic_AddInt32)
-- NOT PRINTED: function 272 (sync_runtime_canSpin)
-- NOT PRINTED: function 273 (sync_runtime_doSpin)
-- NOT PRINTED: function 274 (sync_throw)
-- NOT PRINTED: function 275 (sync_runtime_nanotime)
-- NOT PRINTED: function 276 (sync_runtime_SemacquireMutex)
-- NOT PRINTED: function 267 (sync_Mutex_lockSlow)
-- NOT PRINTED: function 257 (sync_Mutex_Lock_257)
-- NOT PRINTED: function 251 (sync_Mutex_Lock_251)
-- NOT PRINTED: function 268 (race_ReleaseMerge)
-- NOT PRINTED: function 277 (sync_fatal)
-- NOT PRINTED: function 278 (sync_runtime_Semrelease)
-- NOT PRINTED: function 270 (sync_Mutex_unlockSlow)
-- NOT PRINTED: function 258 (sync_Mutex_Unlock_258)
-- NOT PRINTED: function 252 (sync_Mutex_Unlock_252)
-- NOT PRINTED: function 259 (atomic_StoreUint32)
-- NOT PRINTED: function 260 (atomic_b32)
-- NOT PRINTED: function 253 (atomic_Bool_Store)
-- NOT PRINTED: function 239 (sync_Once_doSlow)
-- NOT PRINTED: function 216 (sync_Once_Do)
-- NOT PRINTED: function 271 (strings_longestCommonSuffix)
-- NOT PRINTED: function 261 (strings_makeStringFinder)
-- NOT PRINTED: function 254 (strings_makeSingleStringReplacer)
-- NOT PRINTED: function 262 (strings_trieNode_add)
-- NOT PRINTED: function 255 (strings_makeGenericReplacer)
-- NOT PRINTED: function 240 (strings_Replacer_build)
-- NOT PRINTED: function 217 (strings_Replacer_buildOnce)
-- NOT PRINTED: function 182 (strings_Replacer_Replace)
-- NOT PRINTED: function 131 (url_drop)
-- NOT PRINTED: function 133 (url_of)
-- NOT PRINTED: function 134 (url_set_has)
-- NOT PRINTED: function 135 (utf_Lower)
-- GIVEN BY HAND: function 70 (url_Scheme)
/-! ### elem_Attr: function 71 -/
def elem_Attr.j0 : Nat → ByteArray → ByteArray → Bool → Option (Int)
 | 0, _, _, _ => none
 | k + 1, x0, x3, x4 => if x4 = true then (some 1) else (if x3.toList = ([115, 116, 121, 108, 101] : List UInt8) then (some 3) else ((strings_HasPrefix.f x0 (⟨#[111, 110]⟩ : ByteArray)).bind fun t114 => (if t114 = true then (if (x0.size : Int) > 2 then (some 2) else (some 0)) else (some 0))))
def elem_Attr.f (k : Nat) (a0 : ByteArray) : Option (Int) := if a0.toList = ([104, 114, 101, 102] : List UInt8) then (elem_Attr.j0 k a0 a0 (a0.toList == ([104, 114, 101, 102] : List UInt8))) else (if a0.toList = ([115, 114, 99] : List UInt8) then (elem_Attr.j0 k a0 a0 (a0.toList == ([115, 114, 99] : List UInt8))) else (if a0.toList = ([97, 99, 116, 105, 111, 110] : List UInt8) then (elem_Attr.j0 k a0 a0 (a0.toList == ([97, 99, 116, 105, 111, 110] : List UInt8))) else (if a0.toList = ([102, 111, 114, 109, 97, 99, 116, 105, 111, 110] : List UInt8) then (elem_Attr.j0 k a0 a0 (a0.toList == ([102, 111, 114, 109, 97, 99, 116, 105, 111, 110] : List UInt8))) else (elem_Attr.j0 k a0 a0 (a0.toList == ([99, 105, 116, 101] : List UInt8))))))
theorem elem_Attr.mono_l : ∀ k, (∀ y0 y1 y2, LeO (elem_Attr.j0 k y0 y1 y2) (elem_Attr.j0 (k + 1) y0 y1 y2))
 | 0 => fun _ _ _ r h => by simp [elem_Attr.j0] at h
 | k + 1 => by
  have ih0 := elem_Attr.mono_l k
  ·intro y0 y1 y2
   unfold elem_Attr.j0
   repeat' first
   | (with_reducible exact ih0 _ _ _)
   | (with_reducible exact LeO.refl _)
   | (with_reducible exact LeO.none _)
   | (with_reducible refine LeO.ite ?_ ?_)
   | (with_reducible refine LeO.bind ?_ (fun _ => ?_))
   | exact ih0 _ _ _
   | exact LeO.none _
   | refine LeO.ite ?_ ?_
   | refine LeO.bind ?_ (fun _ => ?_)
theorem elem_Attr.mono : ∀ a0 k, LeO (elem_Attr.f k a0) (elem_Attr.f (k + 1) a0) := by
 intro a0 k
 have ih0 := elem_Attr.mono_l k
 unfold elem_Attr.f
 repeat' first
   | (with_reducible exact ih0 _ _ _)
   | (with_reducible exact LeO.refl _)
   | (with_reducible exact LeO.none _)
   | (with_reducible refine LeO.ite ?_ ?_)
   | (with_reducible refine LeO.bind ?_ (fun _ => ?_))
   | exact ih0 _ _ _
   | exact LeO.none _
   | refine LeO.ite ?_ ?_
   | refine LeO.bind ?_ (fun _ => ?_)
set_option maxHeartbeats 8000000 in
set_option maxRecDepth 100000 in
theorem elem_Attr.calls (k : Nat) (a0 : ByteArray) (r : Int) (w : World) (h : elem_Attr.f k a0 = some r) :
  Calls Tryz.prog 71 #[.string a0] w fun e w' => e = .returned (.int .i64 r) ∧ Drawn0 w w' := by
 have H : (if a0.toList = ([104, 114, 101, 102] : List UInt8) then (elem_Attr.j0 k a0 a0 (a0.toList == ([104, 114, 101, 102] : List UInt8))) else (if a0.toList = ([115, 114, 99] : List UInt8) then (elem_Attr.j0 k a0 a0 (a0.toList == ([115, 114, 99] : List UInt8))) else (if a0.toList = ([97, 99, 116, 105, 111, 110] : List UInt8) then (elem_Attr.j0 k a0 a0 (a0.toList == ([97, 99, 116, 105, 111, 110] : List UInt8))) else (if a0.toList = ([102, 111, 114, 109, 97, 99, 116, 105, 111, 110] : List UInt8) then (elem_Attr.j0 k a0 a0 (a0.toList == ([102, 111, 114, 109, 97, 99, 116, 105, 111, 110] : List UInt8))) else (elem_Attr.j0 k a0 a0 (a0.toList == ([99, 105, 116, 101] : List UInt8))))))) = some r := h
 clear h
 have HC2 := Aside0.mk H
 clear H
 go_enter Tryz.func71, Tryz.ntmps71
 go_upto_if 4 with (fail)
 go_cut [4] (fun v4 wc => ∃ (kq : Nat) (x4_1 : Bool), v4 = .bool x4_1 ∧ Aside0 (elem_Attr.j0 kq a0 a0 x4_1 = some r) ∧ Aside0 (kq ≤ k) ∧ Drawn0 w wc)
 case first =>
  have H := HC2.out
  clear HC2
  by_cases c3 : a0.toList = ([104, 114, 101, 102] : List UInt8)
  ·rw [if_pos c3] at H
   have c3b0 : (a0.toList == ([104, 114, 101, 102] : List UInt8)) = true := beq_iff_eq.mpr c3
   have c3b1 : (a0.toList != ([104, 114, 101, 102] : List UInt8)) = false := bne_eq_false_iff_eq.mpr c3
   clear c3
   (first | rw [c3b0] | (simp only [i64_w, i32_w]; rw [c3b0]) | skip)
   have H' := Aside0.mk H
   clear H
   go_wp2
   go_meet
   case rel => exact ⟨_, ((a0.toList == ([104, 114, 101, 102] : List UInt8))), (by first | rfl | (simp; done) | (simp [*]; done)), H', ⟨by first | omega | exact Nat.le_refl _⟩, by repeat (first | exact Drawn0.refl _ | apply Drawn0.step)⟩
  ·rw [if_neg c3] at H
   have c3b0 : (a0.toList == ([104, 114, 101, 102] : List UInt8)) = false := beq_eq_false_iff_ne.mpr c3
   have c3b1 : (a0.toList != ([104, 114, 101, 102] : List UInt8)) = true := bne_iff_ne.mpr c3
   (first | rw [c3b0] | (simp only [i64_w, i32_w]; rw [c3b0]) | skip)
   by_cases c4 : a0.toList = ([115, 114, 99] : List UInt8)
   ·rw [if_pos c4] at H
    have c4b0 : (a0.toList == ([115, 114, 99] : List UInt8)) = true := beq_iff_eq.mpr c4
    have c4b1 : (a0.toList != ([115, 114, 99] : List UInt8)) = false := bne_eq_false_iff_eq.mpr c4
    clear c4
    have H' := Aside0.mk H
    clear H
    go_wp2
    go_meet
    case rel => exact ⟨_, ((a0.toList == ([115, 114, 99] : List UInt8))), (by first | rfl | (simp; done) | (simp [*]; done)), H', ⟨by first | omega | exact Nat.le_refl _⟩, by repeat (first | exact Drawn0.refl _ | apply Drawn0.step)⟩
   ·rw [if_neg c4] at H
    have c4b0 : (a0.toList == ([115, 114, 99] : List UInt8)) = false := beq_eq_false_iff_ne.mpr c4
    have c4b1 : (a0.toList != ([115, 114, 99] : List UInt8)) = true := bne_iff_ne.mpr c4
    by_cases c5 : a0.toList = ([97, 99, 116, 105, 111, 110] : List UInt8)
    ·rw [if_pos c5] at H
     have c5b0 : (a0.toList == ([97, 99, 116, 105, 111, 110] : List UInt8)) = true := beq_iff_eq.mpr c5
     have c5b1 : (a0.toList != ([97, 99, 116, 105, 111, 110] : List UInt8)) = false := bne_eq_false_iff_eq.mpr c5
     clear c5
     have H' := Aside0.mk H
     clear H
     go_wp2
     go_meet
     case rel => exact ⟨_, ((a0.toList == ([97, 99, 116, 105, 111, 110] : List UInt8))), (by first | rfl | (simp; done) | (simp [*]; done)), H', ⟨by first | omega | exact Nat.le_refl _⟩, by repeat (first | exact Drawn0.refl _ | apply Drawn0.step)⟩
    ·rw [if_neg c5] at H
     have c5b0 : (a0.toList == ([97, 99, 116, 105, 111, 110] : List UInt8)) = false := beq_eq_false_iff_ne.mpr c5
     have c5b1 : (a0.toList != ([97, 99, 116, 105, 111, 110] : List UInt8)) = true := bne_iff_ne.mpr c5
     by_cases c6 : a0.toList = ([102, 111, 114, 109, 97, 99, 116, 105, 111, 110] : List UInt8)
     ·rw [if_pos c6] at H
      have c6b0 : (a0.toList == ([102, 111, 114, 109, 97, 99, 116, 105, 111, 110] : List UInt8)) = true := beq_iff_eq.mpr c6
      have c6b1 : (a0.toList != ([102, 111, 114, 109, 97, 99, 116, 105, 111, 110] : List UInt8)) = false := bne_eq_false_iff_eq.mpr c6
      clear c6
      have H' := Aside0.mk H
      clear H
      go_wp2
      go_meet
      case rel => exact ⟨_, ((a0.toList == ([102, 111, 114, 109, 97, 99, 116, 105, 111, 110] : List UInt8))), (by first | rfl | (simp; done) | (simp [*]; done)), H', ⟨by first | omega | exact Nat.le_refl _⟩, by repeat (first | exact Drawn0.refl _ | apply Drawn0.step)⟩
     ·rw [if_neg c6] at H
      have c6b0 : (a0.toList == ([102, 111, 114, 109, 97, 99, 116, 105, 111, 110] : List UInt8)) = false := beq_eq_false_iff_ne.mpr c6
      have c6b1 : (a0.toList != ([102, 111, 114, 109, 97, 99, 116, 105, 111, 110] : List UInt8)) = true := bne_iff_ne.mpr c6
      have H' := Aside0.mk H
      clear H
      go_wp2
      go_meet
      case rel => exact ⟨_, ((a0.toList == ([99, 105, 116, 101] : List UInt8))), (by first | rfl | (simp; done) | (simp [*]; done)), H', ⟨by first | omega | exact Nat.le_refl _⟩, by repeat (first | exact Drawn0.refl _ | apply Drawn0.step)⟩
 case rest =>
  clear HC2
  try clear p2
  try clear c3
  try clear c3b0
  try clear c3b1
  try clear c4
  try clear c4b0
  try clear c4b1
  try clear c5
  try clear c5b0
  try clear c5b1
  try clear c6
  try clear c6b0
  try clear c6b1
  obtain ⟨kq, x4_1, rfl, HA, HJ1, ⟨mc1, rfl⟩⟩ := hcut
  cases kq with
  | zero => exact absurd HA.out (by simp [elem_Attr.j0])
  | succ kj1 =>
   have H := HA.out
   clear HA
   simp only [elem_Attr.j0] at H
   by_cases c7 : x4_1 = true
   ·subst c7
    have H1 : (some 1) = some r := by rw [if_pos rfl] at H; exact H
    clear H
    have H := H1
    clear H1
    obtain rfl := Option.some.inj H
    go_wp2
    go_ret
    exact ⟨by first | rfl | (simp; done) | (simp [*]; done), by repeat (first | exact Drawn0.refl _ | apply Drawn0.step)⟩
   ·replace c7 := Bool.eq_false_iff.mpr c7
    subst c7
    have H1 : (if a0.toList = ([115, 116, 121, 108, 101] : List UInt8) then (some 3) else ((strings_HasPrefix.f a0 (⟨#[111, 110]⟩ : ByteArray)).bind fun t114 => (if t114 = true then (if (a0.size : Int) > 2 then (some 2) else (some 0)) else (some 0)))) = some r := by rw [if_neg (show ¬ (false = true) by decide)] at H; exact H
    clear H
    have H := H1
    clear H1
    by_cases c8 : a0.toList = ([115, 116, 121, 108, 101] : List UInt8)
    ·rw [if_pos c8] at H
     have c8b0 : (a0.toList == ([115, 116, 121, 108, 101] : List UInt8)) = true := beq_iff_eq.mpr c8
     have c8b1 : (a0.toList != ([115, 116, 121, 108, 101] : List UInt8)) = false := bne_eq_false_iff_eq.mpr c8
     clear c8
     obtain rfl := Option.some.inj H
     go_wp2
     go_ret
     exact ⟨by first | rfl | (simp; done) | (simp [*]; done), by repeat (first | exact Drawn0.refl _ | apply Drawn0.step)⟩
    ·rw [if_neg c8] at H
     have c8b0 : (a0.toList == ([115, 116, 121, 108, 101] : List UInt8)) = false := beq_eq_false_iff_ne.mpr c8
     have c8b1 : (a0.toList != ([115, 116, 121, 108, 101] : List UInt8)) = true := bne_iff_ne.mpr c8
     replace H := Option.bind_eq_some_iff.mp H
     obtain ⟨t114, A90, H⟩ := H
     replace H : (if t114 = true then (if (a0.size : Int) > 2 then (some 2) else (some 0)) else (some 0)) = some r := H
     have A9 := Aside0.mk A90
     clear A90
     by_cases c10 : t114 = true
     ·subst c10
      have H1 : (if (a0.size : Int) > 2 then (some 2) else (some 0)) = some r := by rw [if_pos rfl] at H; exact H
      clear H
      have H := H1
      clear H1
      by_cases c11 : (a0.size : Int) > 2
      ·rw [if_pos c11] at H
       have c11b0 : decide (2 < (a0.size : Int)) = true := decide_eq_true c11
       have c11b1 : decide (2 < a0.size) = true := decide_eq_true (by omega)
       clear c11
       obtain rfl := Option.some.inj H
       go_wp2_with (first | ((with_reducible refine gate_callee (f := 136) rfl ?_); refine goesL_ (some 13) rfl rfl Tryz.func136 (by kernel_rfl) rfl #[.string a0, .string (⟨#[111, 110]⟩ : ByteArray)] rfl (by (try simp only [List.map_toArray, List.map_cons, List.map_nil]); first | done | rfl | (simp only [List.length_drop, List.length_take]; rfl)) ?_; (with_reducible refine (strings_HasPrefix.calls a0 (⟨#[111, 110]⟩ : ByteArray) true _ A9.out).mono ?_); rintro e w' ⟨rfl, ⟨nd, rfl⟩⟩; refine ⟨_, rfl, ?_⟩))
       go_ret
       exact ⟨by first | rfl | (simp; done) | (simp [*]; done), by repeat (first | exact Drawn0.refl _ | apply Drawn0.step)⟩
      ·rw [if_neg c11] at H
       have c11b0 : decide (2 < (a0.size : Int)) = false := decide_eq_false c11
       have c11b1 : decide (2 < a0.size) = false := decide_eq_false (by omega)
       clear c11
       obtain rfl := Option.some.inj H
       go_wp2_with (first | ((with_reducible refine gate_callee (f := 136) rfl ?_); refine goesL_ (some 13) rfl rfl Tryz.func136 (by kernel_rfl) rfl #[.string a0, .string (⟨#[111, 110]⟩ : ByteArray)] rfl (by (try simp only [List.map_toArray, List.map_cons, List.map_nil]); first | done | rfl | (simp only [List.length_drop, List.length_take]; rfl)) ?_; (with_reducible refine (strings_HasPrefix.calls a0 (⟨#[111, 110]⟩ : ByteArray) true _ A9.out).mono ?_); rintro e w' ⟨rfl, ⟨nd, rfl⟩⟩; refine ⟨_, rfl, ?_⟩))
       go_ret
       exact ⟨by first | rfl | (simp; done) | (simp [*]; done), by repeat (first | exact Drawn0.refl _ | apply Drawn0.step)⟩
     ·replace c10 := Bool.eq_false_iff.mpr c10
      subst c10
      have H1 : (some 0) = some r := by rw [if_neg (show ¬ (false = true) by decide)] at H; exact H
      clear H
      have H := H1
      clear H1
      obtain rfl := Option.some.inj H
      go_wp2_with (first | ((with_reducible refine gate_callee (f := 136) rfl ?_); refine goesL_ (some 13) rfl rfl Tryz.func136 (by kernel_rfl) rfl #[.string a0, .string (⟨#[111, 110]⟩ : ByteArray)] rfl (by (try simp only [List.map_toArray, List.map_cons, List.map_nil]); first | done | rfl | (simp only [List.length_drop, List.length_take]; rfl)) ?_; (with_reducible refine (strings_HasPrefix.calls a0 (⟨#[111, 110]⟩ : ByteArray) false _ A9.out).mono ?_); rintro e w' ⟨rfl, ⟨nd, rfl⟩⟩; refine ⟨_, rfl, ?_⟩))
      go_ret
      exact ⟨by first | rfl | (simp; done) | (simp [*]; done), by repeat (first | exact Drawn0.refl _ | apply Drawn0.step)⟩
-- NOT PRINTED: function 39 (audit_Schemes)
-- NOT PRINTED: function 41 (stolelaw24_awake)
-- NOT PRINTED: function 10 (stolelaw24_AuditTexts)
-- NOT PRINTED: function 13 (stolelaw24_AuditLong)
-- NOT PRINTED: function 11 (stolelaw24_AuditAttrs)
-- NOT PRINTED: function 12 (stolelaw24_SchemeRows)
end Go.Proofs.YtfmcdlbbbmeolaaGreatDoor.XQ
end
section
namespace Go.Proofs.YtfmcdlbbbmeolaaGreatDoor.ExtP
open Go.RowKit Go.Lib Go.Proofs.YtfmcdlbbbmeolaaGreatDoor.XK Go.Proofs.YtfmcdlbbbmeolaaGreatDoor.XP Go.Proofs.YtfmcdlbbbmeolaaGreatDoor.XQ Go.Proofs.YtfmcdlbbbmeolaaGreatDoorW.PrintWords Go.Proofs.YtfmcdlbbbmeolaaGreatDoorW.PrintLast Go.Proofs.YtfmcdlbbbmeolaaGreatDoorW.PrintMore
attribute [local go_sem ↓] Go.wp_at_zero Go.wp_at_succ
set_option linter.unusedVariables false
set_option linter.unusedSimpArgs false
set_option maxRecDepth 100000
def sIn (k : Nat) : List ByteArray → List S39 → Option (List ByteArray)
  | out, [] => some out
  | out, a :: az => (url_Scheme.f a.f1).bind fun p => if p.2 = true then ((elem_Attr.f k a.f0).bind fun t => if t = 1 then (if out.length < 8796093022208 then sIn k (out ++ [p.1]) az else none) else sIn k out az) else sIn k out az
def sOut (k : Nat) : List ByteArray → List S69 → Option (List ByteArray)
  | out, [] => some out
  | out, n :: ns => (sIn k out n.f3).bind fun o => sOut k o ns
def audit_Schemes.f (k : Nat) (a0 : ByteArray) : Option (List ByteArray × Int) := (page_Parse.f a0).bind fun p => if p.2 = 0 then ((sOut k [] p.1).bind fun o => some (o, 0)) else some ([], p.2)
theorem sIn_mono (k : Nat) : ∀ az out, LeO (sIn k out az) (sIn (k + 1) out az)
  | [], out => fun r h => h
  | a :: az, out => fun r h => by
    unfold sIn at h ⊢
    obtain ⟨p, hp, h⟩ := Option.bind_eq_some_iff.mp h
    rw [hp, Option.bind_some]
    by_cases h1 : p.2 = true
    · rw [if_pos h1] at h ⊢
      obtain ⟨t, ht, h⟩ := Option.bind_eq_some_iff.mp h
      rw [elem_Attr.mono _ _ _ ht, Option.bind_some]
      by_cases h2 : t = 1
      · rw [if_pos h2] at h ⊢
        by_cases h3 : out.length < 8796093022208
        · rw [if_pos h3] at h ⊢; exact sIn_mono k az _ r h
        · rw [if_neg h3] at h; cases h
      · rw [if_neg h2] at h ⊢; exact sIn_mono k az _ r h
    · rw [if_neg h1] at h ⊢; exact sIn_mono k az _ r h
theorem sOut_mono (k : Nat) : ∀ ns out, LeO (sOut k out ns) (sOut (k + 1) out ns)
  | [], out => fun r h => h
  | n :: ns, out => fun r h => by
    unfold sOut at h ⊢
    obtain ⟨o, ho, h⟩ := Option.bind_eq_some_iff.mp h
    rw [sIn_mono k _ _ o ho, Option.bind_some]
    exact sOut_mono k ns o r h
theorem audit_Schemes.mono : ∀ a0 k, LeO (audit_Schemes.f k a0) (audit_Schemes.f (k + 1) a0) := fun a0 k r h => by
  unfold audit_Schemes.f at h ⊢
  obtain ⟨p, hp, h⟩ := Option.bind_eq_some_iff.mp h
  rw [hp, Option.bind_some]
  by_cases h1 : p.2 = 0
  · rw [if_pos h1] at h ⊢
    obtain ⟨o, ho, h⟩ := Option.bind_eq_some_iff.mp h
    rw [sOut_mono k _ _ o ho, Option.bind_some]; exact h
  · rw [if_neg h1] at h ⊢; exact h
theorem rdN (xs : List S69) (i : Nat) (h : i < xs.length) : xs.drop i = Go.Proofs.YtfmcdlbbbmeolaaGreatDoor.XK.rd_T69 xs (i : Int) :: xs.drop (i + 1) := by
  unfold Go.Proofs.YtfmcdlbbbmeolaaGreatDoor.XK.rd_T69; rw [Int.toNat_natCast, List.getD_eq_getElem?_getD, List.getElem?_eq_getElem h, Option.getD_some]; exact List.drop_eq_getElem_cons h
theorem rdA (xs : List S39) (i : Nat) (h : i < xs.length) : xs.drop i = Go.Proofs.YtfmcdlbbbmeolaaGreatDoor.XK.rd_T39 xs (i : Int) :: xs.drop (i + 1) := by
  unfold Go.Proofs.YtfmcdlbbbmeolaaGreatDoor.XK.rd_T39; rw [Int.toNat_natCast, List.getD_eq_getElem?_getD, List.getElem?_eq_getElem h, Option.getD_some]; exact List.drop_eq_getElem_cons h
set_option maxHeartbeats 12800000 in
theorem audit_Schemes.calls (k : Nat) (a0 : ByteArray) (r1 : List ByteArray) (r2 : Int) (w : World) (hT : Tabs w) (h : audit_Schemes.f k a0 = some (r1, r2)) :
    Calls Tryz.prog 39 #[.string a0] w fun e w' => ∃ v0_ : Value, e = .returned (.tuple #[v0_, .int .i64 r2]) ∧ Kd.R Kd.string 9 w' w.heap.size (fun _ => True) v0_ r1 ∧ Below w.heap.size w w' := by
  unfold audit_Schemes.f at h
  obtain ⟨⟨ns, e2⟩, hp, h⟩ := Option.bind_eq_some_iff.mp h
  simp only at h
  have HP := Aside0.mk (page_Parse.calls a0 ns e2 w hT hp)
  clear hp hT
  by_cases h1 : e2 = 0
  · subst h1
    rw [if_pos rfl] at h
    obtain ⟨o, ho, h⟩ := Option.bind_eq_some_iff.mp h
    obtain ⟨rfl, rfl⟩ := Prod.mk.inj (Option.some.inj h)
    have hu := Tryz.underlying69
    have hua := Tryz.underlying39
    have hul := Tryz.underlying49
    have hual := Tryz.underlying35
    have hust := Tryz.underlying34
    have HO := Aside0.mk ho
    clear ho
    go_enter Tryz.func39, Tryz.ntmps39
    go_wp2_with (go_at_call 27; refine HP.out.mono ?_; rintro e w1 ⟨v1, rfl, hS1, hb1⟩; obtain ⟨A1, c1, rfl, hc1, hC1⟩ := Kd.S_reads hS1)
    have HB1 := Aside0.mk hb1
    have HC1 := Aside0.mk hC1
    clear hb1 hC1 hS1 HP
    go_loopg [23, 6] ns.length (fun kq v23 v6 w' => ∃ (i : Nat) (x6 : List ByteArray), v23 = .int .i64 (i : Int) ∧ Aside0 (i + kq = ns.length) ∧ Aside0 (sOut k x6 (ns.drop i) = some o) ∧ Aside0 (Kd.R Kd.string 9 w' w1.heap.size (fun _ => True) v6 x6) ∧ Aside0 (Below w1.heap.size w1 w'))
    case atStart => exact ⟨0, [], rfl, ⟨by omega⟩, HO, ⟨Kd.R_nil _ _ _ _ _⟩, ⟨Below.refl _ _⟩⟩
    case round =>
      obtain ⟨i, x6, rfl, HI, HA, HR, HB⟩ := hrel
      cases gk with
      | zero =>
        have hlt : ¬ i < ns.length := by have := HI.out; omega
        have hA := HA.out
        rw [List.drop_of_length_le (by omega)] at hA
        obtain rfl := Option.some.inj hA
        go_wp2
        go_ret2
        exact ⟨_, rfl, Kd.R_lower HR.out HB1.out.size, HB1.out.trans (HB.out.mono HB1.out.size)⟩
      | succ g =>
        have hlt : i < ns.length := by have := HI.out; omega
        have hA := HA.out
        rw [rdN ns i hlt] at hA
        unfold sOut at hA
        obtain ⟨y6, hy, hA⟩ := Option.bind_eq_some_iff.mp hA
        obtain ⟨ad, A3, c3, e, g0, g1, g2, g3, g4, g5, g6⟩ := Go.Proofs.YtfmcdlbbbmeolaaGreatDoor.XK.at_T69 HC1.out (i : Int) (by omega) (by omega)
        cases e
        rw [Int.toNat_natCast] at g0 g1 g2 g3 g4
        obtain ⟨x, hx⟩ : ∃ x, Go.Proofs.YtfmcdlbbbmeolaaGreatDoor.XK.rd_T69 ns (i : Int) = x := ⟨_, rfl⟩
        rw [hx] at g0 g1 g2 g3 g4 g5 g6 hy
        replace g0 := pw_cell_below HB.out g0
        replace g1 := pw_cell_below HB.out g1
        replace g2 := pw_cell_below HB.out g2
        replace g3 := pw_cell_below HB.out g3
        replace g4 := pw_cell_below HB.out g4
        have HA := Aside0.mk hA
        have HY := Aside0.mk hy
        have HL := Aside0.mk HC1.out.2.1
        have hm := HL.out
        clear hA hy
        have HG6 := Aside0.mk g6
        have HXL := Aside0.mk g6.2.1
        clear g6
        have hm3 := HXL.out
        go_wp2
        have HR2 := Aside0.mk (Kd.R_alloc HR.out (.cells #[.int .i64 x.f0, .string x.f1, .string x.f2, .slice A3 x.f3.length c3, .int .i64 x.f4] 69))
        have HB2 := Aside0.mk (HB.out.alloc HB.out.size (.cells #[.int .i64 x.f0, .string x.f1, .string x.f2, .slice A3 x.f3.length c3, .int .i64 x.f4] 69))
        clear HR HB g0 g1 g2 g3 g4
        go_loopg [30, 6] x.f3.length (fun kq v30 v6 wx => ∃ (j : Nat) (z6 : List ByteArray), v30 = .int .i64 (j : Int) ∧ Aside0 (j + kq = x.f3.length) ∧ Aside0 (sIn k z6 (x.f3.drop j) = some y6) ∧ Aside0 (Kd.R Kd.string 9 wx w1.heap.size (fun _ => True) v6 z6) ∧ Aside0 (Below w1.heap.size w1 wx))
        case atStart => exact ⟨0, x6, rfl, ⟨by omega⟩, ⟨HY.out⟩, HR2, HB2⟩
        case round =>
          obtain ⟨j, z6, rfl, HJ, HZ, HR, HB⟩ := hrel
          clear HR2 HB2 HY
          cases gk with
          | zero =>
            have hlj : ¬ j < x.f3.length := by have := HJ.out; omega
            have hA := HZ.out
            rw [List.drop_of_length_le (by omega)] at hA
            obtain rfl := Option.some.inj hA
            go_wp2
            go_roundg g
            case measure => omega
            case rel => exact ⟨i + 1, z6, by go_num, ⟨by have := HI.out; omega⟩, HA, HR, HB⟩
          | succ gj =>
            have hlj : j < x.f3.length := by have := HJ.out; omega
            have hA := HZ.out
            rw [rdA x.f3 j hlj] at hA
            obtain ⟨ad3, e, g0, g1⟩ := Go.Proofs.YtfmcdlbbbmeolaaGreatDoor.XK.at_T39 HG6.out (j : Int) (by omega) (by omega)
            subst e
            rw [Int.toNat_natCast] at g0 g1
            obtain ⟨a, ha⟩ : ∃ a, Go.Proofs.YtfmcdlbbbmeolaaGreatDoor.XK.rd_T39 x.f3 (j : Int) = a := ⟨_, rfl⟩
            rw [ha] at g0 g1 hA
            unfold sIn at hA
            obtain ⟨⟨sc, hs⟩, hy, hA⟩ := Option.bind_eq_some_iff.mp hA
            simp only at hA
            replace g0 := pw_cell_below HB.out g0
            replace g1 := pw_cell_below HB.out g1
            have HS := Aside0.mk hy
            clear hy
            cases hs with
            | false =>
              rw [if_neg (by simp)] at hA
              have HA2 := Aside0.mk hA
              clear hA
              have HR2 := Aside0.mk (Kd.R_alloc HR.out (.cells #[.string a.f0, .string a.f1] 39))
              have HB2 := Aside0.mk (HB.out.alloc HB.out.size (.cells #[.string a.f0, .string a.f1] 39))
              go_wp2_with (go_at_call 70; (with_reducible refine (url_Scheme.calls a.f1 sc false _ HS.out).mono ?_); rintro e w4 ⟨rfl, hb4⟩; have HR4 := Aside0.mk (Kd.R_below HR2.out hb4); have HB4 := Aside0.mk (below_step HB2.out hb4); clear hb4)
              go_roundg gj
              case measure => omega
              case rel => exact ⟨j + 1, z6, by go_num, ⟨by have := HJ.out; omega⟩, HA2, HR4, HB4⟩
            | true =>
              rw [if_pos rfl] at hA
              obtain ⟨t, ht, hA⟩ := Option.bind_eq_some_iff.mp hA
              have HE := Aside0.mk ht
              clear ht
              have HR2 := Aside0.mk (Kd.R_alloc HR.out (.cells #[.string a.f0, .string a.f1] 39))
              have HB2 := Aside0.mk (HB.out.alloc HB.out.size (.cells #[.string a.f0, .string a.f1] 39))
              have HX := Aside0.mk (heap_alloc_new wr (.cells #[.string a.f0, .string a.f1] 39))
              by_cases h1 : t = 1
              · rw [if_pos h1] at hA
                subst h1
                have hz : z6.length < 8796093022208 := by
                  by_cases hz : z6.length < 8796093022208
                  · exact hz
                  · rw [if_neg hz] at hA; cases hA
                rw [if_pos hz] at hA
                have HA2 := Aside0.mk hA
                have HZL := Aside0.mk hz
                clear hA hz
                go_wp2_with (first | (go_at_call 70; (with_reducible refine (url_Scheme.calls a.f1 sc true _ HS.out).mono ?_); rintro e w4 ⟨rfl, hb4⟩; have HR4 := Aside0.mk (Kd.R_below HR2.out hb4); have HB4 := Aside0.mk (below_step HB2.out hb4); have z0 := pw_cell_below hb4 ((blk_cell HX.out 0).trans rfl); clear hb4) | (go_at_call 71; (with_reducible refine (elem_Attr.calls k a.f0 1 _ HE.out).mono ?_); rintro e w5 ⟨rfl, hd5⟩; have HR5 := Aside0.mk (Kd.R_below HR4.out hd5.below); have HB5 := Aside0.mk (below_step HB4.out hd5.below); clear hd5) | ((with_reducible refine gate_builtin (b := .append) (xs := #[.tmp 47, .tmp 49]) rfl ?_); at_builtin; refine Kd.R_append Kd.string (w0 := w1) w1.heap.size rfl (.tmp 47) (.tmp 49) 34 9 (.string ⟨#[]⟩) 16 rfl Tryz.underlying34 Go.Proofs.YtfmcdlbbbmeolaaGreatDoor.XK.info9 rfl (by decide) (by omega) u6 z6 sc [.string sc] (fun _ => True) (fun _ => False) rfl (by first | (go_simp; done) | (go_simp; rfl)) ?aP (fun _ hk => hk.elim) ?aF ?aO ?aB ?aS ?aL ?_; (case aP => exact rfl); (case aB => exact HB5.out); (case aF => exact (fun _ _ => trivial)); (case aO => exact HR5.out); (case aS => exact below_size HB5.out); (case aL => have := HZL.out; omega); intro v6 w6 ho hb hg hat; have HR6 := Aside0.mk ho; have HB6 := Aside0.mk hb; clear ho hb hg hat))
                go_roundg gj
                case measure => omega
                case rel => exact ⟨j + 1, z6 ++ [sc], by go_num, ⟨by have := HJ.out; omega⟩, HA2, HR6, HB6⟩
              · rw [if_neg h1] at hA
                have HA2 := Aside0.mk hA
                have h1b : (t == 1) = false := by simpa using h1
                clear hA
                go_wp2_with (first | (go_at_call 70; (with_reducible refine (url_Scheme.calls a.f1 sc true _ HS.out).mono ?_); rintro e w4 ⟨rfl, hb4⟩; have HR4 := Aside0.mk (Kd.R_below HR2.out hb4); have HB4 := Aside0.mk (below_step HB2.out hb4); have z0 := pw_cell_below hb4 ((blk_cell HX.out 0).trans rfl); clear hb4) | (go_at_call 71; (with_reducible refine (elem_Attr.calls k a.f0 t _ HE.out).mono ?_); rintro e w5 ⟨rfl, hd5⟩; have HR5 := Aside0.mk (Kd.R_below HR4.out hd5.below); have HB5 := Aside0.mk (below_step HB4.out hd5.below); clear hd5))
                go_roundg gj
                case measure => omega
                case rel => exact ⟨j + 1, z6, by go_num, ⟨by have := HJ.out; omega⟩, HA2, HR5, HB5⟩
  · rw [if_neg h1] at h
    obtain ⟨rfl, rfl⟩ := Prod.mk.inj (Option.some.inj h)
    have h1b : (e2 == 0) = false := by simpa using h1
    have h1c : (e2 != 0) = true := by simpa using h1
    clear h
    go_enter Tryz.func39, Tryz.ntmps39
    go_wp2_with (go_at_call 27; refine HP.out.mono ?_; rintro e w1 ⟨v1, rfl, hS1, hb1⟩)
    go_ret2
    exact ⟨_, rfl, Kd.R_nil _ _ _ _ _, hb1⟩
end Go.Proofs.YtfmcdlbbbmeolaaGreatDoor.ExtP
end
section
namespace Go.Proofs.YtfmcdlbbbmeolaaGreatDoor.XA
end Go.Proofs.YtfmcdlbbbmeolaaGreatDoor.XA
end
