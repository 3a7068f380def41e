/- Two short names, for long rows of true and false. Laid by xprint.py, a program of this session over the kit's print: for each Go function one Lean function of the same answers, and the walk that shows it. Laid by xprint.py, a program of this session over the kit's print: for each Go function one Lean function of the same answers, and the walk that shows it. Laid by xprint.py, a program of this session over the kit's print: for each Go function one Lean function of the same answers, and the walk that shows it. -/
import Derived.Test.YtfmcdlbbbmeolaaGreatDoorU0
import Derived.Test.YtfmcdlbbbmeolaaGreatDoorY1
import Derived.Test.YtfmcdlbbbmeolaaGreatDoorProg
import Derived.Below
import Derived.Deep.Draws
import Derived.Deep.AppendLies
import Derived.Maps.AppendAt
import Derived.OwnWalk
import Derived.Laws.BytesArg
import Derived.Laws.MakeOwn
import Derived.Laws.OwnMore
import Derived.Deep.OwnRows
import Derived.Tactics
import Derived.Lib.ConvBytes
import Derived.Laws.Slices
import Derived.WalkKit
import Derived.KernelRfl
import Derived.RowKit3
import Derived.Deep.LoopGhost
import Derived.Deep.QuietTactic
import Derived.BigQuiet
import Derived.WideLaws
import Derived.Deep.DeepCutAuto
import Derived.Deep.CutBlock
import Derived.Deep.RegionHeld3
import Derived.Laws.Rows
import Derived.Lib.AppendStr
import Derived.ArgAppend
import Derived.Laws.IdiomCopy
import Derived.OrdersHeld
import Derived.Laws.BitsLemmas
import Derived.RowKit
import Derived.Test.YtfmcdlbbbmeolaaGreatDoorY0
import Derived.Test.YtfmcdlbbbmeolaaGreatDoorY2
import Derived.Test.YtfmcdlbbbmeolaaGreatDoorU15
import Derived.Test.YtfmcdlbbbmeolaaGreatDoorU2
import Derived.Test.YtfmcdlbbbmeolaaGreatDoorU17
section
namespace Go.Proofs.YtfmcdlbbbmeolaaGreatDoor.Ext
abbrev T : Bool := true
abbrev F : Bool := false
end Go.Proofs.YtfmcdlbbbmeolaaGreatDoor.Ext
end
section
namespace Go.Proofs.YtfmcdlbbbmeolaaGreatDoor.XP
open Go.RowKit Go.Proofs.YtfmcdlbbbmeolaaGreatDoor.ExtP Go.Proofs.YtfmcdlbbbmeolaaGreatDoor.XK Go.Proofs.YtfmcdlbbbmeolaaGreatDoorW.PrintWords Go.Proofs.YtfmcdlbbbmeolaaGreatDoorW.PrintLast Go.Proofs.YtfmcdlbbbmeolaaGreatDoorW.PrintMore
attribute [local go_sem] max2_int min2_int max_two min_two max_three min_three max_four min_four   -- for this text's walks alone
set_option linter.unusedVariables false
set_option linter.unusedSimpArgs false
theorem info39 : (Tryz.prog.info? 39).map (fun i => (i.zero, i.size, i.bytes)) = some (some (.agg #[(.string ⟨#[]⟩), (.string ⟨#[]⟩)]), 2, 32) := by kernel_rfl
-- the values' own types
/-! #### struct type 39 -/
/-! #### struct type 69 -/
theorem at_T69 {w : World} {A : Option Addr} {n : Nat} {xs : List S69} (h : Kd.C k69 w A n xs) (i : Int) (h0 : 0 ≤ i) (h1 : i < n) : ∃ ad A3 c3, A = some ad ∧ w.cell? (ad.add (i.toNat * 5)) = some (.int .i64 (rd_T69 xs i).f0) ∧ w.cell? ⟨(ad.add (i.toNat * 5)).block, (ad.add (i.toNat * 5)).off + 1, none⟩ = some (.string (rd_T69 xs i).f1) ∧ w.cell? ⟨(ad.add (i.toNat * 5)).block, (ad.add (i.toNat * 5)).off + 2, none⟩ = some (.string (rd_T69 xs i).f2) ∧ w.cell? ⟨(ad.add (i.toNat * 5)).block, (ad.add (i.toNat * 5)).off + 3, none⟩ = some (.slice A3 (rd_T69 xs i).f3.length c3) ∧ w.cell? ⟨(ad.add (i.toNat * 5)).block, (ad.add (i.toNat * 5)).off + 4, none⟩ = some (.int .i64 (rd_T69 xs i).f4) ∧ (rd_T69 xs i).f3.length ≤ c3 ∧ k39.C w A3 (rd_T69 xs i).f3.length (rd_T69 xs i).f3 := by
  obtain ⟨ad, c, e, _, hK, hc0⟩ := Kd.C_get h z69 i h0 h1
  have hc : ∀ j u, c[j]? = some u → w.cell? (ad.add (i.toNat * 5 + j)) = some u := hc0
  obtain ⟨A3, c3, rfl, l3, g3⟩ := k69_open hK
  exact ⟨ad, A3, c3, e, hc 0 _ rfl, by rw [← add_field _ _ 1 (by omega)]; exact hc 1 _ rfl, by rw [← add_field _ _ 2 (by omega)]; exact hc 2 _ rfl, by rw [← add_field _ _ 3 (by omega)]; exact hc 3 _ rfl, by rw [← add_field _ _ 4 (by omega)]; exact hc 4 _ rfl, l3, g3⟩
-- GIVEN BY HAND: function 21 (stolelaw0_Num)
-- NOT PRINTED: function 179 (abi_NoEscape)
-- NOT PRINTED: function 128 (strings_Builder_copyCheck)
-- NOT PRINTED: function 66 (strings_Builder_WriteString)
-- NOT PRINTED: function 68 (strings_Builder_String)
-- NOT PRINTED: function 241 (bytealg_IndexByteString)
-- NOT PRINTED: function 218 (stringslite_IndexByte)
-- NOT PRINTED: function 242 (bytealg_IndexString)
-- NOT PRINTED: function 243 (bytealg_Cutover)
-- NOT PRINTED: function 256 (bytealg_hashStr_string)
-- NOT PRINTED: function 244 (bytealg_IndexRabinKarp_string)
-- NOT PRINTED: function 221 (stringslite_Index)
-- NOT PRINTED: function 189 (strings_Index)
-- NOT PRINTED: function 219 (utf8_RuneCountInString)
-- NOT PRINTED: function 220 (bytealg_CountString)
-- NOT PRINTED: function 188 (strings_Count)
-- NOT PRINTED: function 245 (bytealg_MakeNoZero)
-- NOT PRINTED: function 228 (strings_Builder_grow)
-- NOT PRINTED: function 202 (strings_Builder_Grow)
-- NOT PRINTED: function 229 (utf8_decodeRuneInStringSlow)
-- NOT PRINTED: function 203 (utf8_DecodeRuneInString)
-- NOT PRINTED: function 150 (strings_Replace)
-- NOT PRINTED: function 84 (strings_ReplaceAll)
-- NOT PRINTED: function 45 (utf_Lines)
-- NOT PRINTED: function 46 (tok_Start)
-- NOT PRINTED: function 151 (tok_at)
-- NOT PRINTED: function 85 (tok_data)
-- NOT PRINTED: function 183 (utf_LowerByte)
-- NOT PRINTED: function 132 (utf_Letter)
-- NOT PRINTED: function 152 (tok_more)
-- NOT PRINTED: function 86 (tok_tagOpen)
-- NOT PRINTED: function 87 (tok_endOpen)
-- NOT PRINTED: function 156 (tok_blank)
-- NOT PRINTED: function 167 (elem_Kind)
-- NOT PRINTED: function 157 (tok_closes)
-- NOT PRINTED: function 159 (tok_in)
-- NOT PRINTED: function 153 (tok_between)
-- NOT PRINTED: function 88 (tok_tagName)
-- NOT PRINTED: function 154 (tok_attr)
-- NOT PRINTED: function 89 (tok_begins)
-- NOT PRINTED: function 155 (tok_names)
-- NOT PRINTED: function 90 (tok_attrName)
-- NOT PRINTED: function 91 (tok_afterName)
-- NOT PRINTED: function 92 (tok_beforeValue)
-- NOT PRINTED: function 158 (tok_quoted)
-- NOT PRINTED: function 93 (tok_double)
-- NOT PRINTED: function 94 (tok_single)
-- NOT PRINTED: function 95 (tok_bare)
-- NOT PRINTED: function 160 (tok_bangs)
-- NOT PRINTED: function 96 (tok_bang)
-- NOT PRINTED: function 97 (tok_bangDash)
-- NOT PRINTED: function 161 (tok_either)
-- NOT PRINTED: function 98 (tok_comment)
-- NOT PRINTED: function 99 (tok_commentDash)
-- NOT PRINTED: function 100 (tok_commentEnd)
-- NOT PRINTED: function 101 (tok_bogus)
-- NOT PRINTED: function 162 (tok_held)
-- NOT PRINTED: function 102 (tok_holds)
-- NOT PRINTED: function 103 (tok_heldLt)
-- NOT PRINTED: function 163 (tok_reads)
-- NOT PRINTED: function 104 (tok_heldSlash)
-- NOT PRINTED: function 105 (tok_heldName)
-- NOT PRINTED: function 47 (tok_Step)
-- NOT PRINTED: function 106 (tok_ends)
-- NOT PRINTED: function 185 (strings_IndexByte)
-- NOT PRINTED: function 186 (stringslite_HasPrefix)
-- NOT PRINTED: function 136 (strings_HasPrefix)
-- NOT PRINTED: function 184 (utf_Digit)
-- NOT PRINTED: function 246 (refs_digit)
-- NOT PRINTED: function 247 (utf8_ValidRune)
-- NOT PRINTED: function 231 (refs_numbered)
-- NOT PRINTED: function 232 (refs_named)
-- NOT PRINTED: function 206 (refs_meant)
-- NOT PRINTED: function 207 (strings_Builder_WriteByte)
-- NOT PRINTED: function 168 (refs_Decode)
-- NOT PRINTED: function 230 (api_Attr_230)
-- NOT PRINTED: function 205 (api_Attr_205)
-- NOT PRINTED: function 164 (tok_reader_kept)
-- NOT PRINTED: function 111 (tok_reader_text)
-- NOT PRINTED: function 165 (tok_reader_told)
-- NOT PRINTED: function 107 (tok_reader_tag)
-- NOT PRINTED: function 108 (tok_remarks)
-- NOT PRINTED: function 109 (tok_reader_comment)
-- NOT PRINTED: function 166 (tok_reader_last)
-- NOT PRINTED: function 110 (tok_reader_reads)
-- NOT PRINTED: function 48 (tok_reader_takes)
-- NOT PRINTED: function 49 (tok_reader_rest)
-- GIVEN BY HAND: function 18 (tok_Tokens)
-- NOT PRINTED: function 175 (tree_attrs)
-- NOT PRINTED: function 120 (tree_may)
-- NOT PRINTED: function 176 (tree_builder_inner)
-- NOT PRINTED: function 122 (tree_builder_node)
-- NOT PRINTED: function 121 (tree_builder_text)
-- NOT PRINTED: function 177 (api_Attr_177)
-- NOT PRINTED: function 123 (tree_builder_start)
-- NOT PRINTED: function 124 (tree_builder_end)
-- GIVEN BY HAND: function 63 (tree_Build)
/-! ### page_Parse: function 27 -/
def page_Parse.f (a0 : ByteArray) : Option ((List (S69)) × Int) := (tok_Tokens.f a0).bind fun bt101 => (if bt101.2 = 0 then ((tree_Build.f bt101.1).bind fun bt105 => (some (bt105.1, bt105.2))) else (some (([] : List (S69)), bt101.2)))
set_option maxHeartbeats 8000000 in
set_option maxRecDepth 100000 in
theorem page_Parse.calls (a0 : ByteArray) (r1 : List (S69)) (r2 : Int) (w : World) (hT : Tabs w) (h : page_Parse.f a0 = some (r1, r2)) :
  Calls Tryz.prog 27 #[.string a0] w fun e w' => ∃ v0_ : Value, e = .returned (.tuple #[v0_, .int .i64 r2]) ∧ Kd.S k69 69 w' w.heap.size (fun _ => True) v0_ r1 ∧ Below w.heap.size w w' := by
 have HT := Aside0.mk hT
 clear hT
 have HB := Aside0.mk (Below.refl w.heap.size w)
 have H : ((tok_Tokens.f a0).bind fun bt101 => (if bt101.2 = 0 then ((tree_Build.f bt101.1).bind fun bt105 => (some (bt105.1, bt105.2))) else (some (([] : List (S69)), bt101.2)))) = some (r1, r2) := h
 clear h
 replace H := Option.bind_eq_some_iff.mp H
 obtain ⟨⟨t101, t102⟩, A20, H⟩ := H
 replace H : (if t102 = 0 then ((tree_Build.f t101).bind fun bt105 => (some (bt105.1, bt105.2))) else (some (([] : List (S69)), t102))) = some (r1, r2) := H
 have A2 := Aside0.mk A20
 clear A20
 by_cases c3 : t102 = 0
 ·rw [if_pos c3] at H
  have c3b0 : (t102 == 0) = true := beq_iff_eq.mpr c3
  have c3b1 : (t102 != 0) = false := bne_eq_false_iff_eq.mpr c3
  clear c3
  replace H := Option.bind_eq_some_iff.mp H
  obtain ⟨⟨t105, t106⟩, A40, H⟩ := H
  replace H : (some (t105, t106)) = some (r1, r2) := H
  have A4 := Aside0.mk A40
  clear A40
  simp only [Option.some.injEq, Prod.mk.injEq] at H
  obtain ⟨rfl, rfl⟩ := H
  go_enter Tryz.func27, Tryz.ntmps27
  go_wp2_with (first | ((with_reducible refine gate_callee (f := 18) rfl ?_); refine goesL_ (some 8) rfl rfl Tryz.func18 (by kernel_rfl) rfl #[.string a0] rfl (by (try simp only [List.map_toArray, List.map_cons, List.map_nil]); first | done | rfl | (simp only [List.length_drop, List.length_take]; rfl)) ?_; (with_reducible refine (tok_Tokens.calls a0 t101 t102 _ (tabs_below HT.out (by repeat (first | (with_reducible first | exact HB.out | apply below_alloc | apply pw_below_drewN | apply below_drew1) | exact HB.out))) A2.out).mono ?_); rintro e w5 ⟨v103, rfl, ho0, hb⟩; refine ⟨_, rfl, ?_⟩; have n0_ := Aside0.mk (Kd.S_lower ho0 (below_size (by repeat (first | (with_reducible first | exact HB.out | apply below_alloc | apply pw_below_drewN | apply below_drew1) | exact HB.out)))); have n1_ := Aside0.mk (below_step (by repeat (first | (with_reducible first | exact HB.out | apply below_alloc | apply pw_below_drewN | apply below_drew1) | exact HB.out)) hb); clear HB; have HO104 := n0_; have HB := n1_; clear n0_ n1_; (try clear hb); (try clear hb2); (try clear hk); (try clear hi); (try clear ho0); obtain ⟨Ao6, co6, eo6⟩ := Kd.S_slice HO104.out; subst eo6) | ((with_reducible refine gate_callee (f := 63) rfl ?_); refine goesL_ (some 15) rfl rfl Tryz.func63 (by kernel_rfl) rfl #[.slice Ao6 t101.length co6] rfl (by (try simp only [List.map_toArray, List.map_cons, List.map_nil]); first | done | rfl | (simp only [List.length_drop, List.length_take]; rfl)) ?_; (with_reducible refine (tree_Build.calls _ _ t101 t105 t106 _ ?side1 ?side2 A4.out).mono ?_); (case side1 => repeat (first | exact (Kd.S_reads' HO104.out).2.2 | (with_reducible refine Kd.C_alloc ?_ _) | (with_reducible refine Kd.C_drewN ?_ _) | (with_reducible refine Kd.C_drew ?_))); (case side2 => exact (Kd.S_reads' HO104.out).2.1); rintro e w7 ⟨v107, rfl, ho0, hb⟩; refine ⟨_, rfl, ?_⟩; have n0_ := Aside0.mk (Kd.S_below (by (with_reducible repeat (first | apply Kd.S_alloc | apply Kd.S_drewN | apply Kd.S_drew)); exact HO104.out) hb); have n1_ := Aside0.mk (Kd.S_lower ho0 (below_size (by repeat (first | (with_reducible first | exact HB.out | apply below_alloc | apply pw_below_drewN | apply below_drew1) | exact HB.out)))); have n2_ := Aside0.mk (below_step (by repeat (first | (with_reducible first | exact HB.out | apply below_alloc | apply pw_below_drewN | apply below_drew1) | exact HB.out)) hb); clear HO104; clear HB; have HO104 := n0_; have HO108 := n1_; have HB := n2_; clear n0_ n1_ n2_; (try clear hb); (try clear hb2); (try clear hk); (try clear hi); (try clear ho0)))
  go_ret2
  exact ⟨_, by first | rfl | (simp [errW_none, errW_some] <;> rfl) | (simp [*, errW_none, errW_some] <;> rfl), by (with_reducible repeat (first | apply Kd.S_alloc | apply Kd.S_drewN | apply Kd.S_drew)); exact HO108.out, by repeat (first | (with_reducible first | exact HB.out | apply below_alloc | apply pw_below_drewN | apply below_drew1) | exact HB.out)⟩
 ·rw [if_neg c3] at H
  have c3b0 : (t102 == 0) = false := beq_eq_false_iff_ne.mpr c3
  have c3b1 : (t102 != 0) = true := bne_iff_ne.mpr c3
  simp only [Option.some.injEq, Prod.mk.injEq] at H
  obtain ⟨rfl, rfl⟩ := H
  go_enter Tryz.func27, Tryz.ntmps27
  go_wp2_with (first | ((with_reducible refine gate_callee (f := 18) rfl ?_); refine goesL_ (some 8) rfl rfl Tryz.func18 (by kernel_rfl) rfl #[.string a0] rfl (by (try simp only [List.map_toArray, List.map_cons, List.map_nil]); first | done | rfl | (simp only [List.length_drop, List.length_take]; rfl)) ?_; (with_reducible refine (tok_Tokens.calls a0 t101 t102 _ (tabs_below HT.out (by repeat (first | (with_reducible first | exact HB.out | apply below_alloc | apply pw_below_drewN | apply below_drew1) | exact HB.out))) A2.out).mono ?_); rintro e w8 ⟨v103, rfl, ho0, hb⟩; refine ⟨_, rfl, ?_⟩; have n0_ := Aside0.mk (Kd.S_lower ho0 (below_size (by repeat (first | (with_reducible first | exact HB.out | apply below_alloc | apply pw_below_drewN | apply below_drew1) | exact HB.out)))); have n1_ := Aside0.mk (below_step (by repeat (first | (with_reducible first | exact HB.out | apply below_alloc | apply pw_below_drewN | apply below_drew1) | exact HB.out)) hb); clear HB; have HO104 := n0_; have HB := n1_; clear n0_ n1_; (try clear hb); (try clear hb2); (try clear hk); (try clear hi); (try clear ho0)))
  go_ret2
  exact ⟨_, by first | rfl | (simp [errW_none, errW_some] <;> rfl) | (simp [*, errW_none, errW_some] <;> rfl), by first | exact Kd.S_nil _ _ _ _ _ | exact Kd.N_nil _ _ _ _ _ | exact Kd.V_nil _ _ _ _ _ | exact Kd.Q_nil _ _ _ _ _ | exact Kd.R_nil _ _ _ _ _, by repeat (first | (with_reducible first | exact HB.out | apply below_alloc | apply pw_below_drewN | apply below_drew1) | exact HB.out)⟩
-- NOT PRINTED: function 127 (page_plain)
-- GIVEN BY HAND: function 65 (page_may)
-- NOT PRINTED: function 212 (strconv_small)
-- NOT PRINTED: function 233 (strconv_log10Pow2)
-- NOT PRINTED: function 234 (bits_Len64)
-- NOT PRINTED: function 235 (strconv_bool2_int)
-- NOT PRINTED: function 213 (strconv_numDigits)
-- NOT PRINTED: function 214 (strconv_formatBase10)
-- NOT PRINTED: function 236 (strconv_isPowerOfTwo)
-- NOT PRINTED: function 248 (bits_TrailingZeros32)
-- NOT PRINTED: function 249 (bits_TrailingZeros64)
-- NOT PRINTED: function 237 (bits_TrailingZeros)
-- NOT PRINTED: function 215 (strconv_formatBits)
-- NOT PRINTED: function 180 (strconv_FormatInt)
-- NOT PRINTED: function 129 (strconv_Itoa_129)
-- NOT PRINTED: function 67 (strconv_Itoa_67)
-- GIVEN BY HAND: function 29 (page_Skeleton)
/-! ### page_Texts: function 31 -/
def page_Texts.l0 : Nat → List ByteArray → List (S69) → Int → Int → Option (List ByteArray × Int)
 | 0, _, _, _, _ => none
 | k + 1, x4, x10, x11, x12 => if x12 < x11 then (if 0 ≤ x12 then (if x12 < (x10.length : Int) then (if ((rd_T69 x10 x12).f0) = 2 then (if x4.length < 8796093022208 then (page_Texts.l0 k (x4 ++ [(rd_T69 x10 x12).f2]) x10 x11 (wrap64 (x12 + 1))) else (none)) else (page_Texts.l0 k x4 x10 x11 (wrap64 (x12 + 1)))) else (none)) else (none)) else (some (x4, 0))
def page_Texts.f (k : Nat) (l0 : List (S69)) : Option (List ByteArray × Int) := (page_may.f l0).bind fun t109 => (if t109 = true then (page_Texts.l0 k ([] : List ByteArray) l0 (l0.length : Int) 0) else (some (([] : List ByteArray), 800)))
theorem page_Texts.mono_l : ∀ k, (∀ y0 y1 y2 y3, LeO (page_Texts.l0 k y0 y1 y2 y3) (page_Texts.l0 (k + 1) y0 y1 y2 y3))
 | 0 => fun _ _ _ _ r h => by simp [page_Texts.l0] at h
 | k + 1 => by
  have ih0 := page_Texts.mono_l k
  ·intro y0 y1 y2 y3
   unfold page_Texts.l0
   repeat' first
   | (with_reducible exact ih0 _ _ _ _)
   | (with_reducible exact LeO.refl _)
   | (with_reducible exact LeO.none _)
   | (with_reducible refine LeO.ite ?_ ?_)
   | (with_reducible refine LeO.bind ?_ (fun _ => ?_))
   | exact ih0 _ _ _ _
   | exact LeO.none _
   | refine LeO.ite ?_ ?_
   | refine LeO.bind ?_ (fun _ => ?_)
theorem page_Texts.mono : ∀ a0 k, LeO (page_Texts.f k a0) (page_Texts.f (k + 1) a0) := by
 intro a0 k
 have ih0 := page_Texts.mono_l k
 unfold page_Texts.f
 repeat' first
   | (with_reducible exact ih0 _ _ _ _)
   | (with_reducible exact LeO.refl _)
   | (with_reducible exact LeO.none _)
   | (with_reducible refine LeO.ite ?_ ?_)
   | (with_reducible refine LeO.bind ?_ (fun _ => ?_))
   | exact ih0 _ _ _ _
   | exact LeO.none _
   | refine LeO.ite ?_ ?_
   | refine LeO.bind ?_ (fun _ => ?_)
set_option maxHeartbeats 8000000 in
set_option maxRecDepth 100000 in
theorem page_Texts.calls (k : Nat) (A0 : Option Addr) (c0 : Nat) (l0 : List (S69)) (r1 : List ByteArray) (r2 : Int) (w : World) (hr0 : Kd.C k69 w A0 l0.length l0) (hc0 : l0.length ≤ c0) (h : page_Texts.f k l0 = some (r1, r2)) :
  Calls Tryz.prog 31 #[.slice A0 l0.length c0] w fun e w' => ∃ v0_ : Value, e = .returned (.tuple #[v0_, .int .i64 r2]) ∧ Kd.R Kd.string 9 w' w.heap.size (fun _ => True) v0_ r1 ∧ Below w.heap.size w w' := by
 have hu69 := Tryz.underlying69
 have HR0 := Aside0.mk hr0
 have HC0 := Aside0.mk hc0
 clear hr0 hc0
 have HB := Aside0.mk (Below.refl w.heap.size w)
 have H : ((page_may.f l0).bind fun t109 => (if t109 = true then (page_Texts.l0 k ([] : List ByteArray) l0 (l0.length : Int) 0) else (some (([] : List ByteArray), 800)))) = some (r1, r2) := h
 clear h
 replace H := Option.bind_eq_some_iff.mp H
 obtain ⟨t109, A20, H⟩ := H
 replace H : (if t109 = true then (page_Texts.l0 k ([] : List ByteArray) l0 (l0.length : Int) 0) else (some (([] : List ByteArray), 800))) = some (r1, r2) := H
 have A2 := Aside0.mk A20
 clear A20
 by_cases c3 : t109 = true
 ·subst c3
  have H1 : (page_Texts.l0 k ([] : List ByteArray) l0 (l0.length : Int) 0) = some (r1, r2) := by rw [if_pos rfl] at H; exact H
  clear H
  have H := H1
  clear H1
  have H' := Aside0.mk H
  clear H
  go_enter Tryz.func31, Tryz.ntmps31
  go_wp2_with (first | ((with_reducible refine gate_callee (f := 65) rfl ?_); refine goesL_ (some 8) rfl rfl Tryz.func65 (by kernel_rfl) rfl #[.slice A0 l0.length c0] rfl (by (try simp only [List.map_toArray, List.map_cons, List.map_nil]); first | done | rfl | (simp only [List.length_drop, List.length_take]; rfl)) ?_; (with_reducible refine (page_may.calls _ _ l0 true _ ?side1 ?side2 A2.out).mono ?_); (case side1 => repeat (first | exact HR0.out | (with_reducible refine Kd.C_alloc ?_ _) | (with_reducible refine Kd.C_drewN ?_ _) | (with_reducible refine Kd.C_drew ?_))); (case side2 => exact HC0.out); rintro e w4 ⟨rfl, hb⟩; refine ⟨_, rfl, ?_⟩; have n0_ := Aside0.mk (below_step (by repeat (first | (with_reducible first | exact HB.out | apply below_alloc | apply pw_below_drewN | apply below_drew1) | exact HB.out)) hb); clear HB; have HB := n0_; clear n0_; (try clear hb); (try clear hb2); (try clear hk); (try clear hi)))
  go_loopg [4, 12] k (fun kq v4 v12 w' => ∃ (x4_1 : List ByteArray) (x12_1 : Int), v12 = .int .i64 x12_1 ∧ Aside0 (page_Texts.l0 kq x4_1 l0 (l0.length : Int) x12_1 = some (r1, r2)) ∧ Aside0 (kq ≤ k) ∧ Aside0 (Kd.R Kd.string 9 w' w.heap.size (fun _ => True) v4 x4_1) ∧ Aside0 (Below w.heap.size w w'))
  case atStart => exact ⟨(([] : List ByteArray)), (0), (by first | rfl | (simp; done) | (simp [*]; done)), H', ⟨Nat.le_refl _⟩, ⟨by first | exact Kd.R_nil _ _ _ _ _ | exact Kd.N_nil _ _ _ _ _ | exact Kd.V_nil _ _ _ _ _ | exact Kd.Q_nil _ _ _ _ _ | exact Kd.S_nil _ _ _ _ _⟩, ⟨by repeat (first | (with_reducible first | exact HB.out | apply below_alloc | apply pw_below_drewN | apply below_drew1) | exact HB.out)⟩⟩
  case round =>
   clear H'
   try clear p2
   try clear c3
   obtain ⟨x4_1, x12_1, rfl, HA, HK1, HO_4, HB⟩ := hrel
   cases gk with
   | zero => exact absurd HA.out (by simp [page_Texts.l0])
   | succ k1 =>
    have H := HA.out
    clear HA
    simp only [page_Texts.l0] at H
    by_cases c5 : x12_1 < (l0.length : Int)
    ·rw [if_pos c5] at H
     have c5b0 : decide (x12_1 < (l0.length : Int)) = true := decide_eq_true c5
     clear c5
     by_cases c6 : 0 ≤ x12_1
     ·rw [if_pos c6] at H
      have c6b0 : decide (0 ≤ x12_1) = true := decide_eq_true c6
      clear c6
      by_cases c7 : x12_1 < (l0.length : Int)
      ·rw [if_pos c7] at H
       have c7b0 : decide (x12_1 < (l0.length : Int)) = true := decide_eq_true c7
       clear c7
       by_cases c8 : ((rd_T69 l0 x12_1).f0) = 2
       ·rw [if_pos c8] at H
        have c8b0 : (((rd_T69 l0 x12_1).f0) == 2) = true := beq_iff_eq.mpr c8
        have c8b1 : (((rd_T69 l0 x12_1).f0) != 2) = false := bne_eq_false_iff_eq.mpr c8
        clear c8
        by_cases c9 : x4_1.length < 8796093022208
        ·rw [if_pos c9] at H
         have LMc9 := Aside0.mk c9
         clear c9
         obtain ⟨y112, hy112⟩ : ∃ y_ : List ByteArray, y_ = (x4_1 ++ [(rd_T69 l0 x12_1).f2]) := ⟨_, rfl⟩
         replace H : (page_Texts.l0 k1 y112 l0 (l0.length : Int) (wrap64 (x12_1 + 1))) = some (r1, r2) := by first | (rw [hy112]; with_reducible exact H) | (have H2_ := (Option.bind_some _ _).symm.trans H; rw [hy112]; with_reducible exact H2_) | (have H2_ := (Option.bind_some _ _).symm.trans H; with_reducible exact H2_) | with_reducible exact H | (rw [hy112]; exact H) | exact H
         have Ny112 := Aside0.mk hy112
         clear hy112
         have H' := Aside0.mk H
         clear H
         have p110 : 0 ≤ (x12_1 : Int) := of_decide_eq_true (by first | (with_reducible assumption) | assumption)
         have q110 : x12_1 < (l0.length : Int) := of_decide_eq_true (by first | (with_reducible assumption) | assumption)
         obtain ⟨ad110, A110_3, c110_3, e110, hx110_0, hx110_1, hx110_2, hx110_3, hx110_4, hl110_3, hi110_3⟩ := at_T69 HR0.out x12_1 p110 q110
         cases e110
         replace hx110_0 := (HB.out.cell (World.block_lt_of_cell? w _ hx110_0)).trans hx110_0
         replace hx110_1 := (HB.out.cell (World.block_lt_of_cell? w _ hx110_1)).trans hx110_1
         replace hx110_2 := (HB.out.cell (World.block_lt_of_cell? w _ hx110_2)).trans hx110_2
         replace hx110_3 := (HB.out.cell (World.block_lt_of_cell? w _ hx110_3)).trans hx110_3
         replace hx110_4 := (HB.out.cell (World.block_lt_of_cell? w _ hx110_4)).trans hx110_4
         have HR110_3 := Aside0.mk hi110_3
         have HC110_3 := Aside0.mk hl110_3
         clear hi110_3 hl110_3
         replace p110 := eq_true p110
         replace q110 := eq_true q110
         go_wp2_with (first | ((with_reducible refine gate_dst (N := 6) rfl ?_); refine box_event ?hg (N := 6) ?hd (cs := #[.int .i64 0, .string (⟨#[]⟩ : ByteArray), .string (⟨#[]⟩ : ByteArray), .slice none 0 0, .int .i64 0]) (t := 69) ?hr ?_; (case hd => rfl); (case hg => rfl); (case hr => first | (go_simp; done) | (go_simp; rfl)); intro gb111 hg w10 hbox hb; have n0_ := Aside0.mk (Kd.R_below (by (with_reducible repeat (first | apply Kd.R_alloc | apply Kd.R_drewN | apply Kd.R_drew)); exact HO_4.out) hb); have n1_ := Aside0.mk (below_step (by repeat (first | (with_reducible first | exact HB.out | apply below_alloc | apply pw_below_drewN | apply below_drew1) | exact HB.out)) hb); have n2_ := Aside0.mk (hbox); have n3_ := Aside0.mk ((by rw [hg]; exact (below_size (by repeat (first | (with_reducible first | exact HB.out | apply below_alloc | apply pw_below_drewN | apply below_drew1) | exact HB.out))) : w.heap.size ≤ gb111)); have n4_ := Aside0.mk ((by rw [hg]; exact (below_size (by repeat (first | (with_reducible first | exact HB.out | apply below_alloc | apply pw_below_drewN | apply below_drew1) | exact HB.out))) : w.heap.size ≤ gb111)); clear HO_4; clear HB; have HO_4 := n0_; have HB := n1_; have BK111 := n2_; have GW111 := n3_; have GE111 := n4_; clear n0_ n1_ n2_ n3_ n4_; clear hb hbox hg; have hcz11_0 : w10.cell? ⟨gb111, 0, none⟩ = some (.int .i64 0) := (blk_cell BK111.out 0).trans rfl; have hcz11_1 : w10.cell? ⟨gb111, 1, none⟩ = some (.string (⟨#[]⟩ : ByteArray)) := (blk_cell BK111.out 1).trans rfl; have hcz11_2 : w10.cell? ⟨gb111, 2, none⟩ = some (.string (⟨#[]⟩ : ByteArray)) := (blk_cell BK111.out 2).trans rfl; have hcz11_3 : w10.cell? ⟨gb111, 3, none⟩ = some (.slice none 0 0) := (blk_cell BK111.out 3).trans rfl; have hcz11_4 : w10.cell? ⟨gb111, 4, none⟩ = some (.int .i64 0) := (blk_cell BK111.out 4).trans rfl; have hfz11_0 := blk_frozen BK111.out 0; have hfz11_1 := blk_frozen BK111.out 1; have hfz11_2 := blk_frozen BK111.out 2; have hfz11_3 := blk_frozen BK111.out 3; have hfz11_4 := blk_frozen BK111.out 4) | ((with_reducible refine gate_builtin (b := .append) (xs := #[.tmp 19, .tmp 22]) rfl ?_); at_builtin; refine Kd.R_append Kd.string (w0 := w) w.heap.size rfl (.tmp 19) (.tmp 22) 34 9 (.string ⟨#[]⟩) 16 rfl Tryz.underlying34 info9 rfl (by decide) (by omega) u4 x4_1 ((rd_T69 l0 x12_1).f2) [.string ((rd_T69 l0 x12_1).f2)] (fun _ => True) (fun _ => False) rfl (by first | (go_simp; done) | (go_simp; rfl)) ?aP (fun _ hk => hk.elim) ?aF ?aO ?aB ?aS ?aL ?_; (case aP => exact rfl); (case aB => exact (by repeat (first | (with_reducible first | exact HB.out | apply below_alloc | apply pw_below_drewN | apply below_drew1 | refine below_set ?_ GE111.out) | exact HB.out))); (case aF => exact (fun _ _ => trivial)); (case aO => exact (by (with_reducible repeat (first | apply Kd.R_alloc | apply Kd.R_drewN | apply Kd.R_drew)); exact Kd.R_mono (Kd.R_far (p := ⟨gb111, 4, none⟩) (Kd.R_far (p := ⟨gb111, 3, none⟩) (Kd.R_far (p := ⟨gb111, 2, none⟩) (Kd.R_far (p := ⟨gb111, 1, none⟩) (Kd.R_far (p := ⟨gb111, 0, none⟩) (Kd.R_types HO_4.out BK111.out (by decide)) (fun _ hk => hk.2) (.int .i64 ((rd_T69 l0 x12_1).f0))) (fun _ hk => hk.2) (.string ((rd_T69 l0 x12_1).f1))) (fun _ hk => hk.2) (.string ((rd_T69 l0 x12_1).f2))) (fun _ hk => hk.2) (.slice A110_3 ((rd_T69 l0 x12_1).f3).length c110_3)) (fun _ hk => hk.2) (.int .i64 ((rd_T69 l0 x12_1).f4))) (fun _ hk => trivial))); (case aS => exact (below_size (by repeat (first | (with_reducible first | exact HB.out | apply below_alloc | apply pw_below_drewN | apply below_drew1 | refine below_set ?_ GE111.out) | exact HB.out)))); (case aL => have := LMc9.out; first | omega | exact Nat.le_of_lt this); intro v113 w12 ho hb hg hat; rw [← Ny112.out] at ho; have n0_ := Aside0.mk (blk_grown (g := gb111) (o := .cells #[.int .i64 ((rd_T69 l0 x12_1).f0), .string ((rd_T69 l0 x12_1).f1), .string ((rd_T69 l0 x12_1).f2), .slice A110_3 ((rd_T69 l0 x12_1).f3).length c110_3, .int .i64 ((rd_T69 l0 x12_1).f4)] 69 (0, 0)) (by (with_reducible repeat (first | refine blk_drewN ?_ _ | refine blk_drew ?_ | refine blk_alloc ?_ _)); refine blk_put (cs := #[.int .i64 ((rd_T69 l0 x12_1).f0), .string ((rd_T69 l0 x12_1).f1), .string ((rd_T69 l0 x12_1).f2), .slice A110_3 ((rd_T69 l0 x12_1).f3).length c110_3, .int .i64 0]) ?_ 4 _ rfl; (with_reducible repeat (first | refine blk_drewN ?_ _ | refine blk_drew ?_ | refine blk_alloc ?_ _)); refine blk_put (cs := #[.int .i64 ((rd_T69 l0 x12_1).f0), .string ((rd_T69 l0 x12_1).f1), .string ((rd_T69 l0 x12_1).f2), .slice none 0 0, .int .i64 0]) ?_ 3 _ rfl; (with_reducible repeat (first | refine blk_drewN ?_ _ | refine blk_drew ?_ | refine blk_alloc ?_ _)); refine blk_put (cs := #[.int .i64 ((rd_T69 l0 x12_1).f0), .string ((rd_T69 l0 x12_1).f1), .string (⟨#[]⟩ : ByteArray), .slice none 0 0, .int .i64 0]) ?_ 2 _ rfl; (with_reducible repeat (first | refine blk_drewN ?_ _ | refine blk_drew ?_ | refine blk_alloc ?_ _)); refine blk_put (cs := #[.int .i64 ((rd_T69 l0 x12_1).f0), .string (⟨#[]⟩ : ByteArray), .string (⟨#[]⟩ : ByteArray), .slice none 0 0, .int .i64 0]) ?_ 1 _ rfl; (with_reducible repeat (first | refine blk_drewN ?_ _ | refine blk_drew ?_ | refine blk_alloc ?_ _)); refine blk_put (cs := #[.int .i64 0, .string (⟨#[]⟩ : ByteArray), .string (⟨#[]⟩ : ByteArray), .slice none 0 0, .int .i64 0]) ?_ 0 _ rfl; (with_reducible repeat (first | refine blk_drewN ?_ _ | refine blk_drew ?_ | refine blk_alloc ?_ _)); exact BK111.out) hg (Kd.R_ne HO_4.out BK111.out (by decide))); have n1_ := Aside0.mk (hb); have n2_ := Aside0.mk (ho); clear BK111; clear HB; clear HO_4; have BK111 := n0_; have HB := n1_; have HO114 := n2_; clear n0_ n1_ n2_; clear ho hb hg hat))
         go_roundg k1
         case measure => have := HK1.out; omega
         case rel => exact ⟨(y112), (wrap64 (x12_1 + 1)), (by first | rfl | (simp; done) | (simp [*]; done)), H', ⟨by have := HK1.out; omega⟩, ⟨by (with_reducible repeat (first | apply Kd.R_alloc | apply Kd.R_drewN | apply Kd.R_drew)); exact HO114.out⟩, ⟨by repeat (first | (with_reducible first | exact HB.out | apply below_alloc | apply pw_below_drewN | apply below_drew1 | refine below_set ?_ GE111.out) | exact HB.out)⟩⟩
        ·rw [if_neg c9] at H
         exact absurd H (by simp)
       ·rw [if_neg c8] at H
        have c8b0 : (((rd_T69 l0 x12_1).f0) == 2) = false := beq_eq_false_iff_ne.mpr c8
        have c8b1 : (((rd_T69 l0 x12_1).f0) != 2) = true := bne_iff_ne.mpr c8
        have H' := Aside0.mk H
        clear H
        have p110 : 0 ≤ (x12_1 : Int) := of_decide_eq_true (by first | (with_reducible assumption) | assumption)
        have q110 : x12_1 < (l0.length : Int) := of_decide_eq_true (by first | (with_reducible assumption) | assumption)
        obtain ⟨ad110, A110_3, c110_3, e110, hx110_0, hx110_1, hx110_2, hx110_3, hx110_4, hl110_3, hi110_3⟩ := at_T69 HR0.out x12_1 p110 q110
        cases e110
        replace hx110_0 := (HB.out.cell (World.block_lt_of_cell? w _ hx110_0)).trans hx110_0
        replace hx110_1 := (HB.out.cell (World.block_lt_of_cell? w _ hx110_1)).trans hx110_1
        replace hx110_2 := (HB.out.cell (World.block_lt_of_cell? w _ hx110_2)).trans hx110_2
        replace hx110_3 := (HB.out.cell (World.block_lt_of_cell? w _ hx110_3)).trans hx110_3
        replace hx110_4 := (HB.out.cell (World.block_lt_of_cell? w _ hx110_4)).trans hx110_4
        have HR110_3 := Aside0.mk hi110_3
        have HC110_3 := Aside0.mk hl110_3
        clear hi110_3 hl110_3
        replace p110 := eq_true p110
        replace q110 := eq_true q110
        go_wp2_with (first | ((with_reducible refine gate_dst (N := 6) rfl ?_); refine box_event ?hg (N := 6) ?hd (cs := #[.int .i64 0, .string (⟨#[]⟩ : ByteArray), .string (⟨#[]⟩ : ByteArray), .slice none 0 0, .int .i64 0]) (t := 69) ?hr ?_; (case hd => rfl); (case hg => rfl); (case hr => first | (go_simp; done) | (go_simp; rfl)); intro gb111 hg w13 hbox hb; have n0_ := Aside0.mk (Kd.R_below (by (with_reducible repeat (first | apply Kd.R_alloc | apply Kd.R_drewN | apply Kd.R_drew)); exact HO_4.out) hb); have n1_ := Aside0.mk (below_step (by repeat (first | (with_reducible first | exact HB.out | apply below_alloc | apply pw_below_drewN | apply below_drew1) | exact HB.out)) hb); have n2_ := Aside0.mk (hbox); have n3_ := Aside0.mk ((by rw [hg]; exact (below_size (by repeat (first | (with_reducible first | exact HB.out | apply below_alloc | apply pw_below_drewN | apply below_drew1) | exact HB.out))) : w.heap.size ≤ gb111)); have n4_ := Aside0.mk ((by rw [hg]; exact (below_size (by repeat (first | (with_reducible first | exact HB.out | apply below_alloc | apply pw_below_drewN | apply below_drew1) | exact HB.out))) : w.heap.size ≤ gb111)); clear HO_4; clear HB; have HO_4 := n0_; have HB := n1_; have BK111 := n2_; have GW111 := n3_; have GE111 := n4_; clear n0_ n1_ n2_ n3_ n4_; clear hb hbox hg; have hcz14_0 : w13.cell? ⟨gb111, 0, none⟩ = some (.int .i64 0) := (blk_cell BK111.out 0).trans rfl; have hcz14_1 : w13.cell? ⟨gb111, 1, none⟩ = some (.string (⟨#[]⟩ : ByteArray)) := (blk_cell BK111.out 1).trans rfl; have hcz14_2 : w13.cell? ⟨gb111, 2, none⟩ = some (.string (⟨#[]⟩ : ByteArray)) := (blk_cell BK111.out 2).trans rfl; have hcz14_3 : w13.cell? ⟨gb111, 3, none⟩ = some (.slice none 0 0) := (blk_cell BK111.out 3).trans rfl; have hcz14_4 : w13.cell? ⟨gb111, 4, none⟩ = some (.int .i64 0) := (blk_cell BK111.out 4).trans rfl; have hfz14_0 := blk_frozen BK111.out 0; have hfz14_1 := blk_frozen BK111.out 1; have hfz14_2 := blk_frozen BK111.out 2; have hfz14_3 := blk_frozen BK111.out 3; have hfz14_4 := blk_frozen BK111.out 4))
        go_roundg k1
        case measure => have := HK1.out; omega
        case rel => exact ⟨(x4_1), (wrap64 (x12_1 + 1)), (by first | rfl | (simp; done) | (simp [*]; done)), H', ⟨by have := HK1.out; omega⟩, ⟨by (with_reducible repeat (first | apply Kd.R_alloc | apply Kd.R_drewN | apply Kd.R_drew)); exact Kd.R_mono (Kd.R_far (p := ⟨gb111, 4, none⟩) (Kd.R_far (p := ⟨gb111, 3, none⟩) (Kd.R_far (p := ⟨gb111, 2, none⟩) (Kd.R_far (p := ⟨gb111, 1, none⟩) (Kd.R_far (p := ⟨gb111, 0, none⟩) (Kd.R_types HO_4.out BK111.out (by decide)) (fun _ hk => hk.2) (.int .i64 ((rd_T69 l0 x12_1).f0))) (fun _ hk => hk.2) (.string ((rd_T69 l0 x12_1).f1))) (fun _ hk => hk.2) (.string ((rd_T69 l0 x12_1).f2))) (fun _ hk => hk.2) (.slice A110_3 ((rd_T69 l0 x12_1).f3).length c110_3)) (fun _ hk => hk.2) (.int .i64 ((rd_T69 l0 x12_1).f4))) (fun _ hk => trivial)⟩, ⟨by repeat (first | (with_reducible first | exact HB.out | apply below_alloc | apply pw_below_drewN | apply below_drew1 | refine below_set ?_ GE111.out) | exact HB.out)⟩⟩
      ·rw [if_neg c7] at H
       exact absurd H (by simp)
     ·rw [if_neg c6] at H
      exact absurd H (by simp)
    ·rw [if_neg c5] at H
     have c5b0 : decide (x12_1 < (l0.length : Int)) = false := decide_eq_false c5
     clear c5
     simp only [Option.some.injEq, Prod.mk.injEq] at H
     obtain ⟨rfl, rfl⟩ := H
     go_wp2
     go_ret2
     exact ⟨_, by first | rfl | (simp [errW_none, errW_some] <;> rfl) | (simp [*, errW_none, errW_some] <;> rfl), by (with_reducible repeat (first | apply Kd.R_alloc | apply Kd.R_drewN | apply Kd.R_drew)); exact HO_4.out, by repeat (first | (with_reducible first | exact HB.out | apply below_alloc | apply pw_below_drewN | apply below_drew1) | exact HB.out)⟩
 ·replace c3 := Bool.eq_false_iff.mpr c3
  subst c3
  have H1 : (some (([] : List ByteArray), 800)) = some (r1, r2) := by rw [if_neg (show ¬ (false = true) by decide)] at H; exact H
  clear H
  have H := H1
  clear H1
  simp only [Option.some.injEq, Prod.mk.injEq] at H
  obtain ⟨rfl, rfl⟩ := H
  go_enter Tryz.func31, Tryz.ntmps31
  go_wp2_with (first | ((with_reducible refine gate_callee (f := 65) rfl ?_); refine goesL_ (some 8) rfl rfl Tryz.func65 (by kernel_rfl) rfl #[.slice A0 l0.length c0] rfl (by (try simp only [List.map_toArray, List.map_cons, List.map_nil]); first | done | rfl | (simp only [List.length_drop, List.length_take]; rfl)) ?_; (with_reducible refine (page_may.calls _ _ l0 false _ ?side1 ?side2 A2.out).mono ?_); (case side1 => repeat (first | exact HR0.out | (with_reducible refine Kd.C_alloc ?_ _) | (with_reducible refine Kd.C_drewN ?_ _) | (with_reducible refine Kd.C_drew ?_))); (case side2 => exact HC0.out); rintro e w15 ⟨rfl, hb⟩; refine ⟨_, rfl, ?_⟩; have n0_ := Aside0.mk (below_step (by repeat (first | (with_reducible first | exact HB.out | apply below_alloc | apply pw_below_drewN | apply below_drew1) | exact HB.out)) hb); clear HB; have HB := n0_; clear n0_; (try clear hb); (try clear hb2); (try clear hk); (try clear hi)))
  go_ret2
  exact ⟨_, by first | rfl | (simp [errW_none, errW_some] <;> rfl) | (simp [*, errW_none, errW_some] <;> rfl), by first | exact Kd.R_nil _ _ _ _ _ | exact Kd.N_nil _ _ _ _ _ | exact Kd.V_nil _ _ _ _ _ | exact Kd.Q_nil _ _ _ _ _ | exact Kd.S_nil _ _ _ _ _, by repeat (first | (with_reducible first | exact HB.out | apply below_alloc | apply pw_below_drewN | apply below_drew1) | exact HB.out)⟩
-- GIVEN BY HAND: function 34 (stolelaw0_SameTexts)
/-! ### stolelaw8_awake: function 36 -/
def stolelaw8_awake.f (k : Nat)  : Option (Bool) := (page_Parse.f (⟨#[60, 112, 32, 97, 61, 49, 62, 120, 60, 98, 62, 121, 60, 47, 98, 62, 60, 47, 112, 62, 60, 33, 113, 62]⟩ : ByteArray)).bind fun bt115 => ((page_Skeleton.f bt115.1).bind fun bt119 => ((page_Texts.f k bt115.1).bind fun bt121 => (if 65537 ≤ 281474976710656 then ((page_Parse.f (strOfNums (List.replicate 65537 0))).bind fun bt128 => ((page_Skeleton.f ([] : List (S69))).bind fun bt132 => (if (bt115.1.length : Int) = 6 then ((stolelaw0_Num.f bt115.2).bind fun t134 => (if t134 = 0 then (if bt119.1.toList = ([48, 32, 101, 32, 112, 32, 97, 10, 49, 32, 101, 32, 98, 10, 48, 32, 99, 32, 113, 10] : List UInt8) then ((stolelaw0_Num.f bt119.2).bind fun t135 => (if t135 = 0 then ((stolelaw0_SameTexts.f k bt121.1 (([(⟨#[120]⟩ : ByteArray), (⟨#[121]⟩ : ByteArray)] : List ByteArray))).bind fun t139 => (if t139 = true then ((stolelaw0_Num.f bt121.2).bind fun t140 => (if t140 = 0 then ((stolelaw0_Num.f bt128.2).bind fun t141 => (if t141 = 500 then ((stolelaw0_Num.f bt132.2).bind fun t142 => (some (t142 == 800))) else (some false))) else (some false))) else (some false))) else (some false))) else (some false)) else (some false))) else (some false)))) else (none))))
theorem stolelaw8_awake.mono : ∀ k, LeO (stolelaw8_awake.f k ) (stolelaw8_awake.f (k + 1) ) := by
 intro  k
 unfold stolelaw8_awake.f
 repeat' first
   | (with_reducible exact page_Texts.mono _ _)
   | (with_reducible exact stolelaw0_SameTexts.mono _ _ _)
   | (with_reducible exact LeO.refl _)
   | (with_reducible exact LeO.none _)
   | (with_reducible refine LeO.ite ?_ ?_)
   | (with_reducible refine LeO.bind ?_ (fun _ => ?_))
   | exact page_Texts.mono _ _
   | exact stolelaw0_SameTexts.mono _ _ _
   | exact LeO.none _
   | refine LeO.ite ?_ ?_
   | refine LeO.bind ?_ (fun _ => ?_)
set_option maxHeartbeats 8000000 in
set_option maxRecDepth 100000 in
theorem stolelaw8_awake.calls (k : Nat)  (r : Bool) (w : World) (hT : Tabs w) (h : stolelaw8_awake.f k  = some r) (hr : r = true) :
  Calls Tryz.prog 36 #[] w fun e w' => e = .returned (.bool r) ∧ Below w.heap.size w w' := by
 have HT := Aside0.mk hT
 clear hT
 have HB := Aside0.mk (Below.refl w.heap.size w)
 have H : ((page_Parse.f (⟨#[60, 112, 32, 97, 61, 49, 62, 120, 60, 98, 62, 121, 60, 47, 98, 62, 60, 47, 112, 62, 60, 33, 113, 62]⟩ : ByteArray)).bind fun bt115 => ((page_Skeleton.f bt115.1).bind fun bt119 => ((page_Texts.f k bt115.1).bind fun bt121 => (if 65537 ≤ 281474976710656 then ((page_Parse.f (strOfNums (List.replicate 65537 0))).bind fun bt128 => ((page_Skeleton.f ([] : List (S69))).bind fun bt132 => (if (bt115.1.length : Int) = 6 then ((stolelaw0_Num.f bt115.2).bind fun t134 => (if t134 = 0 then (if bt119.1.toList = ([48, 32, 101, 32, 112, 32, 97, 10, 49, 32, 101, 32, 98, 10, 48, 32, 99, 32, 113, 10] : List UInt8) then ((stolelaw0_Num.f bt119.2).bind fun t135 => (if t135 = 0 then ((stolelaw0_SameTexts.f k bt121.1 (([(⟨#[120]⟩ : ByteArray), (⟨#[121]⟩ : ByteArray)] : List ByteArray))).bind fun t139 => (if t139 = true then ((stolelaw0_Num.f bt121.2).bind fun t140 => (if t140 = 0 then ((stolelaw0_Num.f bt128.2).bind fun t141 => (if t141 = 500 then ((stolelaw0_Num.f bt132.2).bind fun t142 => (some (t142 == 800))) else (some false))) else (some false))) else (some false))) else (some false))) else (some false)) else (some false))) else (some false)))) else (none))))) = some r := h
 clear h
 replace H := Option.bind_eq_some_iff.mp H
 obtain ⟨⟨t115, t116⟩, A10, H⟩ := H
 replace H : ((page_Skeleton.f t115).bind fun bt119 => ((page_Texts.f k t115).bind fun bt121 => (if 65537 ≤ 281474976710656 then ((page_Parse.f (strOfNums (List.replicate 65537 0))).bind fun bt128 => ((page_Skeleton.f ([] : List (S69))).bind fun bt132 => (if (t115.length : Int) = 6 then ((stolelaw0_Num.f t116).bind fun t134 => (if t134 = 0 then (if bt119.1.toList = ([48, 32, 101, 32, 112, 32, 97, 10, 49, 32, 101, 32, 98, 10, 48, 32, 99, 32, 113, 10] : List UInt8) then ((stolelaw0_Num.f bt119.2).bind fun t135 => (if t135 = 0 then ((stolelaw0_SameTexts.f k bt121.1 (([(⟨#[120]⟩ : ByteArray), (⟨#[121]⟩ : ByteArray)] : List ByteArray))).bind fun t139 => (if t139 = true then ((stolelaw0_Num.f bt121.2).bind fun t140 => (if t140 = 0 then ((stolelaw0_Num.f bt128.2).bind fun t141 => (if t141 = 500 then ((stolelaw0_Num.f bt132.2).bind fun t142 => (some (t142 == 800))) else (some false))) else (some false))) else (some false))) else (some false))) else (some false)) else (some false))) else (some false)))) else (none)))) = some r := H
 have A1 := Aside0.mk A10
 clear A10
 replace H := Option.bind_eq_some_iff.mp H
 obtain ⟨⟨t119, t120⟩, A20, H⟩ := H
 replace H : ((page_Texts.f k t115).bind fun bt121 => (if 65537 ≤ 281474976710656 then ((page_Parse.f (strOfNums (List.replicate 65537 0))).bind fun bt128 => ((page_Skeleton.f ([] : List (S69))).bind fun bt132 => (if (t115.length : Int) = 6 then ((stolelaw0_Num.f t116).bind fun t134 => (if t134 = 0 then (if t119.toList = ([48, 32, 101, 32, 112, 32, 97, 10, 49, 32, 101, 32, 98, 10, 48, 32, 99, 32, 113, 10] : List UInt8) then ((stolelaw0_Num.f t120).bind fun t135 => (if t135 = 0 then ((stolelaw0_SameTexts.f k bt121.1 (([(⟨#[120]⟩ : ByteArray), (⟨#[121]⟩ : ByteArray)] : List ByteArray))).bind fun t139 => (if t139 = true then ((stolelaw0_Num.f bt121.2).bind fun t140 => (if t140 = 0 then ((stolelaw0_Num.f bt128.2).bind fun t141 => (if t141 = 500 then ((stolelaw0_Num.f bt132.2).bind fun t142 => (some (t142 == 800))) else (some false))) else (some false))) else (some false))) else (some false))) else (some false)) else (some false))) else (some false)))) else (none))) = some r := H
 have A2 := Aside0.mk A20
 clear A20
 replace H := Option.bind_eq_some_iff.mp H
 obtain ⟨⟨t121, t122⟩, A30, H⟩ := H
 replace H : (if 65537 ≤ 281474976710656 then ((page_Parse.f (strOfNums (List.replicate 65537 0))).bind fun bt128 => ((page_Skeleton.f ([] : List (S69))).bind fun bt132 => (if (t115.length : Int) = 6 then ((stolelaw0_Num.f t116).bind fun t134 => (if t134 = 0 then (if t119.toList = ([48, 32, 101, 32, 112, 32, 97, 10, 49, 32, 101, 32, 98, 10, 48, 32, 99, 32, 113, 10] : List UInt8) then ((stolelaw0_Num.f t120).bind fun t135 => (if t135 = 0 then ((stolelaw0_SameTexts.f k t121 (([(⟨#[120]⟩ : ByteArray), (⟨#[121]⟩ : ByteArray)] : List ByteArray))).bind fun t139 => (if t139 = true then ((stolelaw0_Num.f t122).bind fun t140 => (if t140 = 0 then ((stolelaw0_Num.f bt128.2).bind fun t141 => (if t141 = 500 then ((stolelaw0_Num.f bt132.2).bind fun t142 => (some (t142 == 800))) else (some false))) else (some false))) else (some false))) else (some false))) else (some false)) else (some false))) else (some false)))) else (none)) = some r := H
 have A3 := Aside0.mk A30
 clear A30
 by_cases c4 : 65537 ≤ 281474976710656
 ·rw [if_pos c4] at H
  have c4b0 := eq_true c4
  have c4b1 : decide (65537 ≤ 281474976710656) = true := decide_eq_true c4
  clear c4
  obtain ⟨y125, hy125⟩ : ∃ y_ : List Int, y_ = (List.replicate 65537 0) := ⟨_, rfl⟩
  replace H : ((page_Parse.f (strOfNums y125)).bind fun bt128 => ((page_Skeleton.f ([] : List (S69))).bind fun bt132 => (if (t115.length : Int) = 6 then ((stolelaw0_Num.f t116).bind fun t134 => (if t134 = 0 then (if t119.toList = ([48, 32, 101, 32, 112, 32, 97, 10, 49, 32, 101, 32, 98, 10, 48, 32, 99, 32, 113, 10] : List UInt8) then ((stolelaw0_Num.f t120).bind fun t135 => (if t135 = 0 then ((stolelaw0_SameTexts.f k t121 (([(⟨#[120]⟩ : ByteArray), (⟨#[121]⟩ : ByteArray)] : List ByteArray))).bind fun t139 => (if t139 = true then ((stolelaw0_Num.f t122).bind fun t140 => (if t140 = 0 then ((stolelaw0_Num.f bt128.2).bind fun t141 => (if t141 = 500 then ((stolelaw0_Num.f bt132.2).bind fun t142 => (some (t142 == 800))) else (some false))) else (some false))) else (some false))) else (some false))) else (some false)) else (some false))) else (some false)))) = some r := by first | (rw [hy125]; with_reducible exact H) | (have H2_ := (Option.bind_some _ _).symm.trans H; rw [hy125]; with_reducible exact H2_) | (have H2_ := (Option.bind_some _ _).symm.trans H; with_reducible exact H2_) | with_reducible exact H | (rw [hy125]; exact H) | exact H
  have Ny125 := Aside0.mk hy125
  clear hy125
  replace H := Option.bind_eq_some_iff.mp H
  obtain ⟨⟨t128, t129⟩, A50, H⟩ := H
  replace H : ((page_Skeleton.f ([] : List (S69))).bind fun bt132 => (if (t115.length : Int) = 6 then ((stolelaw0_Num.f t116).bind fun t134 => (if t134 = 0 then (if t119.toList = ([48, 32, 101, 32, 112, 32, 97, 10, 49, 32, 101, 32, 98, 10, 48, 32, 99, 32, 113, 10] : List UInt8) then ((stolelaw0_Num.f t120).bind fun t135 => (if t135 = 0 then ((stolelaw0_SameTexts.f k t121 (([(⟨#[120]⟩ : ByteArray), (⟨#[121]⟩ : ByteArray)] : List ByteArray))).bind fun t139 => (if t139 = true then ((stolelaw0_Num.f t122).bind fun t140 => (if t140 = 0 then ((stolelaw0_Num.f t129).bind fun t141 => (if t141 = 500 then ((stolelaw0_Num.f bt132.2).bind fun t142 => (some (t142 == 800))) else (some false))) else (some false))) else (some false))) else (some false))) else (some false)) else (some false))) else (some false))) = some r := H
  have A5 := Aside0.mk A50
  clear A50
  replace H := Option.bind_eq_some_iff.mp H
  obtain ⟨⟨t132, t133⟩, A60, H⟩ := H
  replace H : (if (t115.length : Int) = 6 then ((stolelaw0_Num.f t116).bind fun t134 => (if t134 = 0 then (if t119.toList = ([48, 32, 101, 32, 112, 32, 97, 10, 49, 32, 101, 32, 98, 10, 48, 32, 99, 32, 113, 10] : List UInt8) then ((stolelaw0_Num.f t120).bind fun t135 => (if t135 = 0 then ((stolelaw0_SameTexts.f k t121 (([(⟨#[120]⟩ : ByteArray), (⟨#[121]⟩ : ByteArray)] : List ByteArray))).bind fun t139 => (if t139 = true then ((stolelaw0_Num.f t122).bind fun t140 => (if t140 = 0 then ((stolelaw0_Num.f t129).bind fun t141 => (if t141 = 500 then ((stolelaw0_Num.f t133).bind fun t142 => (some (t142 == 800))) else (some false))) else (some false))) else (some false))) else (some false))) else (some false)) else (some false))) else (some false)) = some r := H
  have A6 := Aside0.mk A60
  clear A60
  by_cases c7 : (t115.length : Int) = 6
  ·rw [if_pos c7] at H
   have c7b0 : ((t115.length : Int) == 6) = true := beq_iff_eq.mpr c7
   have c7b1 : ((t115.length : Int) != 6) = false := bne_eq_false_iff_eq.mpr c7
   clear c7
   replace H := Option.bind_eq_some_iff.mp H
   obtain ⟨t134, A80, H⟩ := H
   replace H : (if t134 = 0 then (if t119.toList = ([48, 32, 101, 32, 112, 32, 97, 10, 49, 32, 101, 32, 98, 10, 48, 32, 99, 32, 113, 10] : List UInt8) then ((stolelaw0_Num.f t120).bind fun t135 => (if t135 = 0 then ((stolelaw0_SameTexts.f k t121 (([(⟨#[120]⟩ : ByteArray), (⟨#[121]⟩ : ByteArray)] : List ByteArray))).bind fun t139 => (if t139 = true then ((stolelaw0_Num.f t122).bind fun t140 => (if t140 = 0 then ((stolelaw0_Num.f t129).bind fun t141 => (if t141 = 500 then ((stolelaw0_Num.f t133).bind fun t142 => (some (t142 == 800))) else (some false))) else (some false))) else (some false))) else (some false))) else (some false)) else (some false)) = some r := H
   have A8 := Aside0.mk A80
   clear A80
   by_cases c9 : t134 = 0
   ·rw [if_pos c9] at H
    have c9b0 : (t134 == 0) = true := beq_iff_eq.mpr c9
    have c9b1 : (t134 != 0) = false := bne_eq_false_iff_eq.mpr c9
    clear c9
    by_cases c10 : t119.toList = ([48, 32, 101, 32, 112, 32, 97, 10, 49, 32, 101, 32, 98, 10, 48, 32, 99, 32, 113, 10] : List UInt8)
    ·rw [if_pos c10] at H
     have c10b0 : (t119.toList == ([48, 32, 101, 32, 112, 32, 97, 10, 49, 32, 101, 32, 98, 10, 48, 32, 99, 32, 113, 10] : List UInt8)) = true := beq_iff_eq.mpr c10
     have c10b1 : (t119.toList != ([48, 32, 101, 32, 112, 32, 97, 10, 49, 32, 101, 32, 98, 10, 48, 32, 99, 32, 113, 10] : List UInt8)) = false := bne_eq_false_iff_eq.mpr c10
     clear c10
     replace H := Option.bind_eq_some_iff.mp H
     obtain ⟨t135, A110, H⟩ := H
     replace H : (if t135 = 0 then ((stolelaw0_SameTexts.f k t121 (([(⟨#[120]⟩ : ByteArray), (⟨#[121]⟩ : ByteArray)] : List ByteArray))).bind fun t139 => (if t139 = true then ((stolelaw0_Num.f t122).bind fun t140 => (if t140 = 0 then ((stolelaw0_Num.f t129).bind fun t141 => (if t141 = 500 then ((stolelaw0_Num.f t133).bind fun t142 => (some (t142 == 800))) else (some false))) else (some false))) else (some false))) else (some false)) = some r := H
     have A11 := Aside0.mk A110
     clear A110
     by_cases c12 : t135 = 0
     ·rw [if_pos c12] at H
      have c12b0 : (t135 == 0) = true := beq_iff_eq.mpr c12
      have c12b1 : (t135 != 0) = false := bne_eq_false_iff_eq.mpr c12
      clear c12
      obtain ⟨y136, hy136⟩ : ∃ y_ : List ByteArray, y_ = (([(⟨#[120]⟩ : ByteArray), (⟨#[121]⟩ : ByteArray)] : List ByteArray)) := ⟨_, rfl⟩
      replace H : ((stolelaw0_SameTexts.f k t121 y136).bind fun t139 => (if t139 = true then ((stolelaw0_Num.f t122).bind fun t140 => (if t140 = 0 then ((stolelaw0_Num.f t129).bind fun t141 => (if t141 = 500 then ((stolelaw0_Num.f t133).bind fun t142 => (some (t142 == 800))) else (some false))) else (some false))) else (some false))) = some r := by first | (rw [hy136]; with_reducible exact H) | (have H2_ := (Option.bind_some _ _).symm.trans H; rw [hy136]; with_reducible exact H2_) | (have H2_ := (Option.bind_some _ _).symm.trans H; with_reducible exact H2_) | with_reducible exact H | (rw [hy136]; exact H) | exact H
      have Ny136 := Aside0.mk hy136
      clear hy136
      replace H := Option.bind_eq_some_iff.mp H
      obtain ⟨t139, A130, H⟩ := H
      replace H : (if t139 = true then ((stolelaw0_Num.f t122).bind fun t140 => (if t140 = 0 then ((stolelaw0_Num.f t129).bind fun t141 => (if t141 = 500 then ((stolelaw0_Num.f t133).bind fun t142 => (some (t142 == 800))) else (some false))) else (some false))) else (some false)) = some r := H
      have A13 := Aside0.mk A130
      clear A130
      by_cases c14 : t139 = true
      ·subst c14
       have H1 : ((stolelaw0_Num.f t122).bind fun t140 => (if t140 = 0 then ((stolelaw0_Num.f t129).bind fun t141 => (if t141 = 500 then ((stolelaw0_Num.f t133).bind fun t142 => (some (t142 == 800))) else (some false))) else (some false))) = some r := by rw [if_pos rfl] at H; exact H
       clear H
       have H := H1
       clear H1
       replace H := Option.bind_eq_some_iff.mp H
       obtain ⟨t140, A150, H⟩ := H
       replace H : (if t140 = 0 then ((stolelaw0_Num.f t129).bind fun t141 => (if t141 = 500 then ((stolelaw0_Num.f t133).bind fun t142 => (some (t142 == 800))) else (some false))) else (some false)) = some r := H
       have A15 := Aside0.mk A150
       clear A150
       by_cases c16 : t140 = 0
       ·rw [if_pos c16] at H
        have c16b0 : (t140 == 0) = true := beq_iff_eq.mpr c16
        have c16b1 : (t140 != 0) = false := bne_eq_false_iff_eq.mpr c16
        clear c16
        replace H := Option.bind_eq_some_iff.mp H
        obtain ⟨t141, A170, H⟩ := H
        replace H : (if t141 = 500 then ((stolelaw0_Num.f t133).bind fun t142 => (some (t142 == 800))) else (some false)) = some r := H
        have A17 := Aside0.mk A170
        clear A170
        by_cases c18 : t141 = 500
        ·rw [if_pos c18] at H
         have c18b0 : (t141 == 500) = true := beq_iff_eq.mpr c18
         have c18b1 : (t141 != 500) = false := bne_eq_false_iff_eq.mpr c18
         clear c18
         replace H := Option.bind_eq_some_iff.mp H
         obtain ⟨t142, A190, H⟩ := H
         replace H : (some (t142 == 800)) = some r := H
         have A19 := Aside0.mk A190
         clear A190
         obtain rfl := Option.some.inj H
         go_enter Tryz.func36, Tryz.ntmps36
         go_wp2_with (first | ((with_reducible refine gate_callee (f := 27) rfl ?_); refine goesL_ (some 12) rfl rfl Tryz.func27 (by kernel_rfl) rfl #[.string (⟨#[60, 112, 32, 97, 61, 49, 62, 120, 60, 98, 62, 121, 60, 47, 98, 62, 60, 47, 112, 62, 60, 33, 113, 62]⟩ : ByteArray)] rfl (by (try simp only [List.map_toArray, List.map_cons, List.map_nil]); first | done | rfl | (simp only [List.length_drop, List.length_take]; rfl)) ?_; (with_reducible refine (page_Parse.calls (⟨#[60, 112, 32, 97, 61, 49, 62, 120, 60, 98, 62, 121, 60, 47, 98, 62, 60, 47, 112, 62, 60, 33, 113, 62]⟩ : ByteArray) t115 t116 _ (tabs_below HT.out (by repeat (first | (with_reducible first | exact HB.out | apply below_alloc | apply pw_below_drewN | apply below_drew1) | exact HB.out))) A1.out).mono ?_); rintro e w20 ⟨v117, rfl, ho0, hb⟩; refine ⟨_, rfl, ?_⟩; have n0_ := Aside0.mk (Kd.S_lower ho0 (below_size (by repeat (first | (with_reducible first | exact HB.out | apply below_alloc | apply pw_below_drewN | apply below_drew1) | exact HB.out)))); have n1_ := Aside0.mk (below_step (by repeat (first | (with_reducible first | exact HB.out | apply below_alloc | apply pw_below_drewN | apply below_drew1) | exact HB.out)) hb); clear HB; have HO118 := n0_; have HB := n1_; clear n0_ n1_; (try clear hb); (try clear hb2); (try clear hk); (try clear hi); (try clear ho0); obtain ⟨Ao21, co21, eo21⟩ := Kd.S_slice HO118.out; subst eo21) | ((with_reducible refine gate_callee (f := 29) rfl ?_); refine goesL_ (some 17) rfl rfl Tryz.func29 (by kernel_rfl) rfl #[.slice Ao21 t115.length co21] rfl (by (try simp only [List.map_toArray, List.map_cons, List.map_nil]); first | done | rfl | (simp only [List.length_drop, List.length_take]; rfl)) ?_; (with_reducible refine (page_Skeleton.calls _ _ t115 t119 t120 _ (tabs_below HT.out (by repeat (first | (with_reducible first | exact HB.out | apply below_alloc | apply pw_below_drewN | apply below_drew1) | exact HB.out))) ?side1 ?side2 A2.out).mono ?_); (case side1 => repeat (first | exact (Kd.S_reads' HO118.out).2.2 | (with_reducible refine Kd.C_alloc ?_ _) | (with_reducible refine Kd.C_drewN ?_ _) | (with_reducible refine Kd.C_drew ?_))); (case side2 => exact (Kd.S_reads' HO118.out).2.1); rintro e w22 ⟨rfl, hb⟩; refine ⟨_, rfl, ?_⟩; have n0_ := Aside0.mk (Kd.S_below (by (with_reducible repeat (first | apply Kd.S_alloc | apply Kd.S_drewN | apply Kd.S_drew)); exact HO118.out) hb); have n1_ := Aside0.mk (below_step (by repeat (first | (with_reducible first | exact HB.out | apply below_alloc | apply pw_below_drewN | apply below_drew1) | exact HB.out)) hb); clear HO118; clear HB; have HO118 := n0_; have HB := n1_; clear n0_ n1_; (try clear hb); (try clear hb2); (try clear hk); (try clear hi)) | ((with_reducible refine gate_callee (f := 31) rfl ?_); refine goesL_ (some 22) rfl rfl Tryz.func31 (by kernel_rfl) rfl #[.slice Ao21 t115.length co21] rfl (by (try simp only [List.map_toArray, List.map_cons, List.map_nil]); first | done | rfl | (simp only [List.length_drop, List.length_take]; rfl)) ?_; (with_reducible refine (page_Texts.calls k _ _ t115 t121 t122 _ ?side1 ?side2 A3.out).mono ?_); (case side1 => repeat (first | exact (Kd.S_reads' HO118.out).2.2 | (with_reducible refine Kd.C_alloc ?_ _) | (with_reducible refine Kd.C_drewN ?_ _) | (with_reducible refine Kd.C_drew ?_))); (case side2 => exact (Kd.S_reads' HO118.out).2.1); rintro e w23 ⟨v123, rfl, ho0, hb⟩; refine ⟨_, rfl, ?_⟩; have n0_ := Aside0.mk (Kd.S_below (by (with_reducible repeat (first | apply Kd.S_alloc | apply Kd.S_drewN | apply Kd.S_drew)); exact HO118.out) hb); have n1_ := Aside0.mk (Kd.R_lower ho0 (below_size (by repeat (first | (with_reducible first | exact HB.out | apply below_alloc | apply pw_below_drewN | apply below_drew1) | exact HB.out)))); have n2_ := Aside0.mk (below_step (by repeat (first | (with_reducible first | exact HB.out | apply below_alloc | apply pw_below_drewN | apply below_drew1) | exact HB.out)) hb); clear HO118; clear HB; have HO118 := n0_; have HO124 := n1_; have HB := n2_; clear n0_ n1_ n2_; (try clear hb); (try clear hb2); (try clear hk); (try clear hi); (try clear ho0)) | ((with_reducible refine gate_dst (N := 26) rfl ?_); (try (refine gate_guard (by rfl) ?_; dsimp only)); refine Kd.R_make (Kd.int .u8) _ 5 rfl (N := 26) rfl 37 _ _ rfl 65537 rfl rfl Tryz.underlying37 (.int .u8 0) 1 info5 rfl (by decide) (by omega) 0 (ok := fun _ => True) (okp := fun _ => True) rfl (fun _ hk => hk) trivial (by omega) (by omega) (Below.refl _ _) (Nat.le_refl _) ?_; intro v126 w24 ho25 hb hg_ hnew_; clear hg_ hnew_; (first | rw [← Ny125.out] at ho25 | (simp only [Int.reduceToNat] at ho25; rw [← Ny125.out] at ho25)); have n0_ := Aside0.mk (Kd.S_below (by (with_reducible repeat (first | apply Kd.S_alloc | apply Kd.S_drewN | apply Kd.S_drew)); exact HO118.out) hb); have n1_ := Aside0.mk (Kd.R_below (by (with_reducible repeat (first | apply Kd.R_alloc | apply Kd.R_drewN | apply Kd.R_drew)); exact HO124.out) hb); have n2_ := Aside0.mk (Kd.R_lower ho25 (below_size (by repeat (first | (with_reducible first | exact HB.out | apply below_alloc | apply pw_below_drewN | apply below_drew1) | exact HB.out)))); have n3_ := Aside0.mk (below_step (by repeat (first | (with_reducible first | exact HB.out | apply below_alloc | apply pw_below_drewN | apply below_drew1) | exact HB.out)) hb); clear HO118; clear HO124; clear HB; have HO118 := n0_; have HO124 := n1_; have HO127 := n2_; have HB := n3_; clear n0_ n1_ n2_ n3_; clear hb ho25; have hcv26 := own_string (P := Tryz.prog) Tryz.underlying37 Tryz.underlying5 Tryz.underlying9 (Kd.own_of_R HO127.out)) | ((with_reducible refine gate_callee (f := 27) rfl ?_); refine goesL_ (some 28) rfl rfl Tryz.func27 (by kernel_rfl) rfl #[.string (strOfNums y125)] rfl (by (try simp only [List.map_toArray, List.map_cons, List.map_nil]); first | done | rfl | (simp only [List.length_drop, List.length_take]; rfl)) ?_; (with_reducible refine (page_Parse.calls (strOfNums y125) t128 t129 _ (tabs_below HT.out (by repeat (first | (with_reducible first | exact HB.out | apply below_alloc | apply pw_below_drewN | apply below_drew1) | exact HB.out))) A5.out).mono ?_); rintro e w27 ⟨v130, rfl, ho0, hb⟩; refine ⟨_, rfl, ?_⟩; have n0_ := Aside0.mk (Kd.S_elder' (by (with_reducible repeat (first | apply Kd.S_alloc | apply Kd.S_drewN | apply Kd.S_drew)); exact HO118.out) (Kd.S_base ho0) hb); have n1_ := Aside0.mk (Kd.R_below (by (with_reducible repeat (first | apply Kd.R_alloc | apply Kd.R_drewN | apply Kd.R_drew)); exact HO124.out) hb); have n2_ := Aside0.mk (Kd.R_below (by (with_reducible repeat (first | apply Kd.R_alloc | apply Kd.R_drewN | apply Kd.R_drew)); exact HO127.out) hb); have n3_ := Aside0.mk (Kd.S_lower (Kd.S_new' ho0 (Kd.S_lt (by (with_reducible repeat (first | apply Kd.S_alloc | apply Kd.S_drewN | apply Kd.S_drew)); exact HO118.out))) (below_size (by repeat (first | (with_reducible first | exact HB.out | apply below_alloc | apply pw_below_drewN | apply below_drew1) | exact HB.out)))); have n4_ := Aside0.mk (below_step (by repeat (first | (with_reducible first | exact HB.out | apply below_alloc | apply pw_below_drewN | apply below_drew1) | exact HB.out)) hb); clear HO118; clear HO124; clear HO127; clear HB; have HO118 := n0_; have HO124 := n1_; have HO127 := n2_; have HO131 := n3_; have HB := n4_; clear n0_ n1_ n2_ n3_ n4_; (try clear hb); (try clear hb2); (try clear hk); (try clear hi); (try clear ho0)) | ((with_reducible refine gate_callee (f := 29) rfl ?_); refine goesL_ (some 32) rfl rfl Tryz.func29 (by kernel_rfl) rfl #[.slice none 0 0] rfl (by (try simp only [List.map_toArray, List.map_cons, List.map_nil]); first | done | rfl | (simp only [List.length_drop, List.length_take]; rfl)) ?_; (refine (page_Skeleton.calls _ _ ([] : List (S69)) t132 t133 _ (tabs_below HT.out (by repeat (first | (with_reducible first | exact HB.out | apply below_alloc | apply pw_below_drewN | apply below_drew1) | exact HB.out))) ?side1 ?side2 A6.out).mono ?_); (case side1 => exact Kd.C_nil _ _); (case side2 => exact Nat.le_refl _); rintro e w28 ⟨rfl, hb⟩; refine ⟨_, rfl, ?_⟩; have n0_ := Aside0.mk (Kd.S_below (by (with_reducible repeat (first | apply Kd.S_alloc | apply Kd.S_drewN | apply Kd.S_drew)); exact HO118.out) hb); have n1_ := Aside0.mk (Kd.R_below (by (with_reducible repeat (first | apply Kd.R_alloc | apply Kd.R_drewN | apply Kd.R_drew)); exact HO124.out) hb); have n2_ := Aside0.mk (Kd.R_below (by (with_reducible repeat (first | apply Kd.R_alloc | apply Kd.R_drewN | apply Kd.R_drew)); exact HO127.out) hb); have n3_ := Aside0.mk (Kd.S_below (by (with_reducible repeat (first | apply Kd.S_alloc | apply Kd.S_drewN | apply Kd.S_drew)); exact HO131.out) hb); have n4_ := Aside0.mk (below_step (by repeat (first | (with_reducible first | exact HB.out | apply below_alloc | apply pw_below_drewN | apply below_drew1) | exact HB.out)) hb); clear HO118; clear HO124; clear HO127; clear HO131; clear HB; have HO118 := n0_; have HO124 := n1_; have HO127 := n2_; have HO131 := n3_; have HB := n4_; clear n0_ n1_ n2_ n3_ n4_; (try clear hb); (try clear hb2); (try clear hk); (try clear hi)) | (go_at_call 21; (with_reducible refine (stolelaw0_Num.calls t116 t134 _ A8.out).mono ?_); rintro e w' ⟨rfl, ⟨nd, rfl⟩⟩) | (go_at_call 21; (with_reducible refine (stolelaw0_Num.calls t120 t135 _ A11.out).mono ?_); rintro e w' ⟨rfl, ⟨nd, rfl⟩⟩) | ((with_reducible refine gate_dst (N := 54) rfl ?_); (try (refine gate_guard (by rfl) ?_; dsimp only)); refine Kd.R_lit Kd.string _ 9 ?hg (N := 54) ?hd (xs := ([(⟨#[120]⟩ : ByteArray), (⟨#[121]⟩ : ByteArray)] : List ByteArray)) (inner := [.string (⟨#[120]⟩ : ByteArray), .string (⟨#[121]⟩ : ByteArray)]) (ok := fun _ => True) (okp := fun _ => True) ?hr ?hp (fun _ hk => hk) trivial (Below.refl _ _) (Nat.le_refl _) (by simp) ?_; (case hd => rfl); (case hg => rfl); (case hr => first | (go_simp; done) | (go_simp; rfl)); (case hp => exact (Reps.one (show Kd.M Kd.string _ _ _ (⟨#[120]⟩ : ByteArray) [.string (⟨#[120]⟩ : ByteArray)] from rfl) (Reps.one (show Kd.M Kd.string _ _ _ (⟨#[121]⟩ : ByteArray) [.string (⟨#[121]⟩ : ByteArray)] from rfl) (Reps.none _ _)))); intro v137 w29 ho30 hb hg_ hnew_; clear hg_ hnew_; (first | rw [← Ny136.out] at ho30 | (simp only [Int.reduceToNat] at ho30; rw [← Ny136.out] at ho30)); have n0_ := Aside0.mk (Kd.S_below (by (with_reducible repeat (first | apply Kd.S_alloc | apply Kd.S_drewN | apply Kd.S_drew)); exact HO118.out) hb); have n1_ := Aside0.mk (Kd.R_elder' (by (with_reducible repeat (first | apply Kd.R_alloc | apply Kd.R_drewN | apply Kd.R_drew)); exact HO124.out) (Kd.R_base ho30) hb); have n2_ := Aside0.mk (Kd.R_below (by (with_reducible repeat (first | apply Kd.R_alloc | apply Kd.R_drewN | apply Kd.R_drew)); exact HO127.out) hb); have n3_ := Aside0.mk (Kd.S_below (by (with_reducible repeat (first | apply Kd.S_alloc | apply Kd.S_drewN | apply Kd.S_drew)); exact HO131.out) hb); have n4_ := Aside0.mk (Kd.R_lower (Kd.R_new' ho30 (Kd.R_lt (by (with_reducible repeat (first | apply Kd.R_alloc | apply Kd.R_drewN | apply Kd.R_drew)); exact HO124.out))) (below_size (by repeat (first | (with_reducible first | exact HB.out | apply below_alloc | apply pw_below_drewN | apply below_drew1) | exact HB.out)))); have n5_ := Aside0.mk (below_step (by repeat (first | (with_reducible first | exact HB.out | apply below_alloc | apply pw_below_drewN | apply below_drew1) | exact HB.out)) hb); clear HO118; clear HO124; clear HO127; clear HO131; clear HB; have HO118 := n0_; have HO124 := n1_; have HO127 := n2_; have HO131 := n3_; have HO138 := n4_; have HB := n5_; clear n0_ n1_ n2_ n3_ n4_ n5_; clear hb ho30; obtain ⟨Ao31, co31, eo31⟩ := Kd.R_slice HO124.out; subst eo31; obtain ⟨Ao32, co32, eo32⟩ := Kd.R_slice HO138.out; subst eo32) | (go_at_call 34; (with_reducible refine (stolelaw0_SameTexts.calls k _ _ t121 _ _ y136 true _ ?side1 ?side2 ?side3 ?side4 A13.out).mono ?_); (case side1 => repeat (first | exact (Kd.R_reads' HO124.out).2.2 | (with_reducible refine Kd.C_alloc ?_ _) | (with_reducible refine Kd.C_drewN ?_ _) | (with_reducible refine Kd.C_drew ?_))); (case side2 => exact (Kd.R_reads' HO124.out).2.1); (case side3 => repeat (first | exact (Kd.R_reads' HO138.out).2.2 | (with_reducible refine Kd.C_alloc ?_ _) | (with_reducible refine Kd.C_drewN ?_ _) | (with_reducible refine Kd.C_drew ?_))); (case side4 => exact (Kd.R_reads' HO138.out).2.1); rintro e w' ⟨rfl, ⟨nd, rfl⟩⟩) | (go_at_call 21; (with_reducible refine (stolelaw0_Num.calls t122 t140 _ A15.out).mono ?_); rintro e w' ⟨rfl, ⟨nd, rfl⟩⟩) | (go_at_call 21; (with_reducible refine (stolelaw0_Num.calls t129 t141 _ A17.out).mono ?_); rintro e w' ⟨rfl, ⟨nd, rfl⟩⟩) | (go_at_call 21; (with_reducible refine (stolelaw0_Num.calls t133 t142 _ A19.out).mono ?_); rintro e w' ⟨rfl, ⟨nd, rfl⟩⟩))
         go_ret
         exact ⟨by first | rfl | (simp [errW_none, errW_some] <;> rfl) | (simp [*, errW_none, errW_some] <;> rfl), by repeat (first | (with_reducible first | exact HB.out | apply below_alloc | apply pw_below_drewN | apply below_drew1) | exact HB.out)⟩
        ·rw [if_neg c18] at H
         have c18b0 : (t141 == 500) = false := beq_eq_false_iff_ne.mpr c18
         have c18b1 : (t141 != 500) = true := bne_iff_ne.mpr c18
         obtain rfl := Option.some.inj H
         exact absurd hr (by simp)
       ·rw [if_neg c16] at H
        have c16b0 : (t140 == 0) = false := beq_eq_false_iff_ne.mpr c16
        have c16b1 : (t140 != 0) = true := bne_iff_ne.mpr c16
        obtain rfl := Option.some.inj H
        exact absurd hr (by simp)
      ·replace c14 := Bool.eq_false_iff.mpr c14
       subst c14
       have H1 : (some false) = some r := by rw [if_neg (show ¬ (false = true) by decide)] at H; exact H
       clear H
       have H := H1
       clear H1
       obtain rfl := Option.some.inj H
       exact absurd hr (by simp)
     ·rw [if_neg c12] at H
      have c12b0 : (t135 == 0) = false := beq_eq_false_iff_ne.mpr c12
      have c12b1 : (t135 != 0) = true := bne_iff_ne.mpr c12
      obtain rfl := Option.some.inj H
      exact absurd hr (by simp)
    ·rw [if_neg c10] at H
     have c10b0 : (t119.toList == ([48, 32, 101, 32, 112, 32, 97, 10, 49, 32, 101, 32, 98, 10, 48, 32, 99, 32, 113, 10] : List UInt8)) = false := beq_eq_false_iff_ne.mpr c10
     have c10b1 : (t119.toList != ([48, 32, 101, 32, 112, 32, 97, 10, 49, 32, 101, 32, 98, 10, 48, 32, 99, 32, 113, 10] : List UInt8)) = true := bne_iff_ne.mpr c10
     obtain rfl := Option.some.inj H
     exact absurd hr (by simp)
   ·rw [if_neg c9] at H
    have c9b0 : (t134 == 0) = false := beq_eq_false_iff_ne.mpr c9
    have c9b1 : (t134 != 0) = true := bne_iff_ne.mpr c9
    obtain rfl := Option.some.inj H
    exact absurd hr (by simp)
  ·rw [if_neg c7] at H
   have c7b0 : ((t115.length : Int) == 6) = false := beq_eq_false_iff_ne.mpr c7
   have c7b1 : ((t115.length : Int) != 6) = true := bne_iff_ne.mpr c7
   obtain rfl := Option.some.inj H
   exact absurd hr (by simp)
 ·rw [if_neg c4] at H
  exact absurd H (by simp)
end Go.Proofs.YtfmcdlbbbmeolaaGreatDoor.XP
end
section
namespace Go.Proofs.YtfmcdlbbbmeolaaGreatDoor.XQ
open Go.RowKit Go.Proofs.YtfmcdlbbbmeolaaGreatDoor.ExtP Go.Proofs.YtfmcdlbbbmeolaaGreatDoor.XP Go.Proofs.YtfmcdlbbbmeolaaGreatDoor.XK Go.Proofs.YtfmcdlbbbmeolaaGreatDoorW.PrintWords Go.Proofs.YtfmcdlbbbmeolaaGreatDoorW.PrintLast Go.Proofs.YtfmcdlbbbmeolaaGreatDoorW.PrintMore
attribute [local go_sem] max2_int min2_int max_two min_two max_three min_three max_four min_four   -- for this text's walks alone
set_option linter.unusedVariables false
set_option linter.unusedSimpArgs false
-- the values' own types
/-! #### struct type 39 -/
/-! #### struct type 69 -/
theorem at_T69 {w : World} {A : Option Addr} {n : Nat} {xs : List S69} (h : Kd.C k69 w A n xs) (i : Int) (h0 : 0 ≤ i) (h1 : i < n) : ∃ ad A3 c3, A = some ad ∧ w.cell? (ad.add (i.toNat * 5)) = some (.int .i64 (rd_T69 xs i).f0) ∧ w.cell? ⟨(ad.add (i.toNat * 5)).block, (ad.add (i.toNat * 5)).off + 1, none⟩ = some (.string (rd_T69 xs i).f1) ∧ w.cell? ⟨(ad.add (i.toNat * 5)).block, (ad.add (i.toNat * 5)).off + 2, none⟩ = some (.string (rd_T69 xs i).f2) ∧ w.cell? ⟨(ad.add (i.toNat * 5)).block, (ad.add (i.toNat * 5)).off + 3, none⟩ = some (.slice A3 (rd_T69 xs i).f3.length c3) ∧ w.cell? ⟨(ad.add (i.toNat * 5)).block, (ad.add (i.toNat * 5)).off + 4, none⟩ = some (.int .i64 (rd_T69 xs i).f4) ∧ (rd_T69 xs i).f3.length ≤ c3 ∧ k39.C w A3 (rd_T69 xs i).f3.length (rd_T69 xs i).f3 := by
  obtain ⟨ad, c, e, _, hK, hc0⟩ := Kd.C_get h z69 i h0 h1
  have hc : ∀ j u, c[j]? = some u → w.cell? (ad.add (i.toNat * 5 + j)) = some u := hc0
  obtain ⟨A3, c3, rfl, l3, g3⟩ := k69_open hK
  exact ⟨ad, A3, c3, e, hc 0 _ rfl, by rw [← add_field _ _ 1 (by omega)]; exact hc 1 _ rfl, by rw [← add_field _ _ 2 (by omega)]; exact hc 2 _ rfl, by rw [← add_field _ _ 3 (by omega)]; exact hc 3 _ rfl, by rw [← add_field _ _ 4 (by omega)]; exact hc 4 _ rfl, l3, g3⟩
end Go.Proofs.YtfmcdlbbbmeolaaGreatDoor.XQ
end
