/- The law stole/stolelaw24.AuditLong returns true at every input of its types, and its arguments read behind the call as before. The listed package-level variables are tied to the program's text. No further condition. AuditLong, plain. stolelaw24's awake: true; AuditTexts, plain. stolelaw8's awake: true; PageTexts, plain. Laid by xprint.py, a program of this session over the kit's print: for each Go function one Lean function of the same answers, and the walk that shows it. Laid by xprint.py, a program of this session over the kit's print: for each Go function one Lean function of the same answers, and the walk that shows it. Laid by xprint.py, a program of this session over the kit's print: for each Go function one Lean function of the same answers, and the walk that shows it. -/
import Derived.Test.YtfmcdlbbbmeolaaGreatDoorU0
import Derived.Test.YtfmcdlbbbmeolaaGreatDoorU19
import Derived.Test.YtfmcdlbbbmeolaaGreatDoorU18
import Derived.Test.YtfmcdlbbbmeolaaGreatDoorU16
import Derived.Test.YtfmcdlbbbmeolaaGreatDoorCards
import Derived.Test.YtfmcdlbbbmeolaaGreatDoorTie
import Derived.WalkKit
import Derived.ProofKit
import Derived.OpenShut
import Derived.ShutString
import Derived.ChangeOld
import Derived.Below
import Derived.SizedLaws
import Derived.Deep.DeepHandedRow
import Derived.LaidMore
import Derived.Lay
import Derived.SevenTiedAt
section
namespace Go.Proofs.YtfmcdlbbbmeolaaGreatDoor.XA
open Go.RowKit Go.Proofs.YtfmcdlbbbmeolaaGreatDoor.XQ Go.Proofs.YtfmcdlbbbmeolaaGreatDoor.ExtP Go.Proofs.YtfmcdlbbbmeolaaGreatDoor.XP Go.Proofs.YtfmcdlbbbmeolaaGreatDoor.XK Go.Proofs.YtfmcdlbbbmeolaaGreatDoorW.PrintWords Go.Proofs.YtfmcdlbbbmeolaaGreatDoorW.PrintLast Go.Proofs.YtfmcdlbbbmeolaaGreatDoorW.PrintMore
attribute [local go_sem] max2_int min2_int max_two min_two max_three min_three max_four min_four   -- for this text's walks alone
set_option linter.unusedVariables false
set_option linter.unusedSimpArgs false
-- GIVEN BY HAND: function 21 (stolelaw0_Num)
-- NOT PRINTED: function 179 (abi_NoEscape)
-- NOT PRINTED: function 128 (strings_Builder_copyCheck)
-- NOT PRINTED: function 66 (strings_Builder_WriteString)
-- NOT PRINTED: function 68 (strings_Builder_String)
-- NOT PRINTED: function 241 (bytealg_IndexByteString)
-- NOT PRINTED: function 218 (stringslite_IndexByte)
-- NOT PRINTED: function 242 (bytealg_IndexString)
-- NOT PRINTED: function 243 (bytealg_Cutover)
-- NOT PRINTED: function 256 (bytealg_hashStr_string)
-- NOT PRINTED: function 244 (bytealg_IndexRabinKarp_string)
-- NOT PRINTED: function 221 (stringslite_Index)
-- NOT PRINTED: function 189 (strings_Index)
-- NOT PRINTED: function 219 (utf8_RuneCountInString)
-- NOT PRINTED: function 220 (bytealg_CountString)
-- NOT PRINTED: function 188 (strings_Count)
-- NOT PRINTED: function 245 (bytealg_MakeNoZero)
-- NOT PRINTED: function 228 (strings_Builder_grow)
-- NOT PRINTED: function 202 (strings_Builder_Grow)
-- NOT PRINTED: function 229 (utf8_decodeRuneInStringSlow)
-- NOT PRINTED: function 203 (utf8_DecodeRuneInString)
-- NOT PRINTED: function 150 (strings_Replace)
-- NOT PRINTED: function 84 (strings_ReplaceAll)
-- NOT PRINTED: function 45 (utf_Lines)
-- NOT PRINTED: function 46 (tok_Start)
-- NOT PRINTED: function 151 (tok_at)
-- NOT PRINTED: function 85 (tok_data)
-- NOT PRINTED: function 183 (utf_LowerByte)
-- NOT PRINTED: function 132 (utf_Letter)
-- NOT PRINTED: function 152 (tok_more)
-- NOT PRINTED: function 86 (tok_tagOpen)
-- NOT PRINTED: function 87 (tok_endOpen)
-- NOT PRINTED: function 156 (tok_blank)
-- NOT PRINTED: function 167 (elem_Kind)
-- NOT PRINTED: function 157 (tok_closes)
-- NOT PRINTED: function 159 (tok_in)
-- NOT PRINTED: function 153 (tok_between)
-- NOT PRINTED: function 88 (tok_tagName)
-- NOT PRINTED: function 154 (tok_attr)
-- NOT PRINTED: function 89 (tok_begins)
-- NOT PRINTED: function 155 (tok_names)
-- NOT PRINTED: function 90 (tok_attrName)
-- NOT PRINTED: function 91 (tok_afterName)
-- NOT PRINTED: function 92 (tok_beforeValue)
-- NOT PRINTED: function 158 (tok_quoted)
-- NOT PRINTED: function 93 (tok_double)
-- NOT PRINTED: function 94 (tok_single)
-- NOT PRINTED: function 95 (tok_bare)
-- NOT PRINTED: function 160 (tok_bangs)
-- NOT PRINTED: function 96 (tok_bang)
-- NOT PRINTED: function 97 (tok_bangDash)
-- NOT PRINTED: function 161 (tok_either)
-- NOT PRINTED: function 98 (tok_comment)
-- NOT PRINTED: function 99 (tok_commentDash)
-- NOT PRINTED: function 100 (tok_commentEnd)
-- NOT PRINTED: function 101 (tok_bogus)
-- NOT PRINTED: function 162 (tok_held)
-- NOT PRINTED: function 102 (tok_holds)
-- NOT PRINTED: function 103 (tok_heldLt)
-- NOT PRINTED: function 163 (tok_reads)
-- NOT PRINTED: function 104 (tok_heldSlash)
-- NOT PRINTED: function 105 (tok_heldName)
-- NOT PRINTED: function 47 (tok_Step)
-- NOT PRINTED: function 106 (tok_ends)
-- NOT PRINTED: function 185 (strings_IndexByte)
-- NOT PRINTED: function 186 (stringslite_HasPrefix)
-- NOT PRINTED: function 136 (strings_HasPrefix)
-- NOT PRINTED: function 184 (utf_Digit)
-- NOT PRINTED: function 246 (refs_digit)
-- NOT PRINTED: function 247 (utf8_ValidRune)
-- NOT PRINTED: function 231 (refs_numbered)
-- NOT PRINTED: function 232 (refs_named)
-- NOT PRINTED: function 206 (refs_meant)
-- NOT PRINTED: function 207 (strings_Builder_WriteByte)
-- NOT PRINTED: function 168 (refs_Decode)
-- NOT PRINTED: function 230 (api_Attr_230)
-- NOT PRINTED: function 205 (api_Attr_205)
-- NOT PRINTED: function 164 (tok_reader_kept)
-- NOT PRINTED: function 111 (tok_reader_text)
-- NOT PRINTED: function 165 (tok_reader_told)
-- NOT PRINTED: function 107 (tok_reader_tag)
-- NOT PRINTED: function 108 (tok_remarks)
-- NOT PRINTED: function 109 (tok_reader_comment)
-- NOT PRINTED: function 166 (tok_reader_last)
-- NOT PRINTED: function 110 (tok_reader_reads)
-- NOT PRINTED: function 48 (tok_reader_takes)
-- NOT PRINTED: function 49 (tok_reader_rest)
-- GIVEN BY HAND: function 18 (tok_Tokens)
-- NOT PRINTED: function 175 (tree_attrs)
-- NOT PRINTED: function 120 (tree_may)
-- NOT PRINTED: function 176 (tree_builder_inner)
-- NOT PRINTED: function 122 (tree_builder_node)
-- NOT PRINTED: function 121 (tree_builder_text)
-- NOT PRINTED: function 177 (api_Attr_177)
-- NOT PRINTED: function 123 (tree_builder_start)
-- NOT PRINTED: function 124 (tree_builder_end)
-- GIVEN BY HAND: function 63 (tree_Build)
-- GIVEN BY HAND: function 27 (page_Parse)
-- NOT PRINTED: function 127 (page_plain)
-- GIVEN BY HAND: function 65 (page_may)
-- NOT PRINTED: function 212 (strconv_small)
-- NOT PRINTED: function 233 (strconv_log10Pow2)
-- NOT PRINTED: function 234 (bits_Len64)
-- NOT PRINTED: function 235 (strconv_bool2_int)
-- NOT PRINTED: function 213 (strconv_numDigits)
-- NOT PRINTED: function 214 (strconv_formatBase10)
-- NOT PRINTED: function 236 (strconv_isPowerOfTwo)
-- NOT PRINTED: function 248 (bits_TrailingZeros32)
-- NOT PRINTED: function 249 (bits_TrailingZeros64)
-- NOT PRINTED: function 237 (bits_TrailingZeros)
-- NOT PRINTED: function 215 (strconv_formatBits)
-- NOT PRINTED: function 180 (strconv_FormatInt)
-- NOT PRINTED: function 129 (strconv_Itoa_129)
-- NOT PRINTED: function 67 (strconv_Itoa_67)
-- GIVEN BY HAND: function 29 (page_Skeleton)
-- GIVEN BY HAND: function 37 (audit_Alike)
-- GIVEN BY HAND: function 34 (stolelaw0_SameTexts)
-- NOT PRINTED: function 181 (strings_NewReplacer)
-- NOT PRINTED: function 250 (atomic_LoadUint32)
-- NOT PRINTED: function 238 (atomic_Bool_Load)
-- NOT PRINTED: function 263 (race_Disable)
-- NOT PRINTED: function 264 (atomic_CompareAndSwapInt32)
-- NOT PRINTED: function 265 (race_Enable)
-- NOT PRINTED: function 266 (race_Acquire)
-- NOT PRINTED: function 269 (atomic_AddInt32)
-- NOT PRINTED: function 272 (sync_runtime_canSpin)
-- NOT PRINTED: function 273 (sync_runtime_doSpin)
-- NOT PRINTED: function 274 (sync_throw)
-- NOT PRINTED: function 275 (sync_runtime_nanotime)
-- NOT PRINTED: function 276 (sync_runtime_SemacquireMutex)
-- NOT PRINTED: function 267 (sync_Mutex_lockSlow)
-- NOT PRINTED: function 257 (sync_Mutex_Lock_257)
-- NOT PRINTED: function 251 (sync_Mutex_Lock_251)
-- NOT PRINTED: function 268 (race_ReleaseMerge)
-- NOT PRINTED: function 277 (sync_fatal)
-- NOT PRINTED: function 278 (sync_runtime_Semrelease)
-- NOT PRINTED: function 270 (sync_Mutex_unlockSlow)
-- NOT PRINTED: function 258 (sync_Mutex_Unlock_258)
-- NOT PRINTED: function 252 (sync_Mutex_Unlock_252)
-- NOT PRINTED: function 259 (atomic_StoreUint32)
-- NOT PRINTED: function 260 (atomic_b32)
-- NOT PRINTED: function 253 (atomic_Bool_Store)
-- NOT PRINTED: function 239 (sync_Once_doSlow)
-- NOT PRINTED: function 216 (sync_Once_Do)
-- NOT PRINTED: function 271 (strings_longestCommonSuffix)
-- NOT PRINTED: function 261 (strings_makeStringFinder)
-- NOT PRINTED: function 254 (strings_makeSingleStringReplacer)
-- NOT PRINTED: function 262 (strings_trieNode_add)
-- NOT PRINTED: function 255 (strings_makeGenericReplacer)
-- NOT PRINTED: function 240 (strings_Replacer_build)
-- NOT PRINTED: function 217 (strings_Replacer_buildOnce)
-- NOT PRINTED: function 182 (strings_Replacer_Replace)
-- NOT PRINTED: function 131 (url_drop)
-- NOT PRINTED: function 133 (url_of)
-- NOT PRINTED: function 134 (url_set_has)
-- NOT PRINTED: function 135 (utf_Lower)
-- GIVEN BY HAND: function 70 (url_Scheme)
-- NOT PRINTED: function 71 (elem_Attr)
-- GIVEN BY HAND: function 39 (audit_Schemes)
/-! ### stolelaw24_awake: function 41 -/
def stolelaw24_awake.f (k : Nat)  : Option (Bool) := (audit_Alike.f (⟨#[60, 112, 62, 120, 60, 47, 112, 62]⟩ : ByteArray) (⟨#[60, 112, 62, 121, 38, 108, 116, 59, 60, 47, 112, 62]⟩ : ByteArray)).bind fun bt101 => ((audit_Alike.f (⟨#[60, 112, 62]⟩ : ByteArray) (⟨#[60, 112, 32, 97, 62]⟩ : ByteArray)).bind fun bt103 => ((audit_Schemes.f k (⟨#[60, 97, 32, 104, 114, 101, 102, 61, 39, 72, 84, 84, 80, 58, 120, 39, 62, 60, 105, 109, 103, 32, 115, 114, 99, 61, 106, 97, 118, 97, 115, 99, 114, 105, 112, 116, 58, 49, 32, 116, 105, 116, 108, 101, 61, 39, 97, 58, 98, 39, 62]⟩ : ByteArray)).bind fun bt105 => (if 65537 ≤ 281474976710656 then ((audit_Schemes.f k (strOfNums (List.replicate 65537 0))).bind fun bt112 => (if bt101.1 = true then ((stolelaw0_Num.f bt101.2).bind fun t116 => (if t116 = 0 then (if bt103.1 = true then (some false) else ((stolelaw0_Num.f bt103.2).bind fun t117 => (if t117 = 0 then ((stolelaw0_SameTexts.f k bt105.1 (([(⟨#[104, 116, 116, 112]⟩ : ByteArray), (⟨#[106, 97, 118, 97, 115, 99, 114, 105, 112, 116]⟩ : ByteArray)] : List ByteArray))).bind fun t121 => (if t121 = true then ((stolelaw0_Num.f bt105.2).bind fun t122 => (if t122 = 0 then ((stolelaw0_Num.f bt112.2).bind fun t123 => (some (t123 == 500))) else (some false))) else (some false))) else (some false)))) else (some false))) else (some false))) else (none))))
theorem stolelaw24_awake.mono : ∀ k, LeO (stolelaw24_awake.f k ) (stolelaw24_awake.f (k + 1) ) := by
 intro  k
 unfold stolelaw24_awake.f
 repeat' first
   | (with_reducible exact audit_Schemes.mono _ _)
   | (with_reducible exact stolelaw0_SameTexts.mono _ _ _)
   | (with_reducible exact LeO.refl _)
   | (with_reducible exact LeO.none _)
   | (with_reducible refine LeO.ite ?_ ?_)
   | (with_reducible refine LeO.bind ?_ (fun _ => ?_))
   | exact audit_Schemes.mono _ _
   | exact stolelaw0_SameTexts.mono _ _ _
   | exact LeO.none _
   | refine LeO.ite ?_ ?_
   | refine LeO.bind ?_ (fun _ => ?_)
set_option maxHeartbeats 8000000 in
set_option maxRecDepth 100000 in
theorem stolelaw24_awake.calls (k : Nat)  (r : Bool) (w : World) (hT : Tabs w) (h : stolelaw24_awake.f k  = some r) (hr : r = true) :
  Calls Tryz.prog 41 #[] w fun e w' => e = .returned (.bool r) ∧ Below w.heap.size w w' := by
 have HT := Aside0.mk hT
 clear hT
 have HB := Aside0.mk (Below.refl w.heap.size w)
 have H : ((audit_Alike.f (⟨#[60, 112, 62, 120, 60, 47, 112, 62]⟩ : ByteArray) (⟨#[60, 112, 62, 121, 38, 108, 116, 59, 60, 47, 112, 62]⟩ : ByteArray)).bind fun bt101 => ((audit_Alike.f (⟨#[60, 112, 62]⟩ : ByteArray) (⟨#[60, 112, 32, 97, 62]⟩ : ByteArray)).bind fun bt103 => ((audit_Schemes.f k (⟨#[60, 97, 32, 104, 114, 101, 102, 61, 39, 72, 84, 84, 80, 58, 120, 39, 62, 60, 105, 109, 103, 32, 115, 114, 99, 61, 106, 97, 118, 97, 115, 99, 114, 105, 112, 116, 58, 49, 32, 116, 105, 116, 108, 101, 61, 39, 97, 58, 98, 39, 62]⟩ : ByteArray)).bind fun bt105 => (if 65537 ≤ 281474976710656 then ((audit_Schemes.f k (strOfNums (List.replicate 65537 0))).bind fun bt112 => (if bt101.1 = true then ((stolelaw0_Num.f bt101.2).bind fun t116 => (if t116 = 0 then (if bt103.1 = true then (some false) else ((stolelaw0_Num.f bt103.2).bind fun t117 => (if t117 = 0 then ((stolelaw0_SameTexts.f k bt105.1 (([(⟨#[104, 116, 116, 112]⟩ : ByteArray), (⟨#[106, 97, 118, 97, 115, 99, 114, 105, 112, 116]⟩ : ByteArray)] : List ByteArray))).bind fun t121 => (if t121 = true then ((stolelaw0_Num.f bt105.2).bind fun t122 => (if t122 = 0 then ((stolelaw0_Num.f bt112.2).bind fun t123 => (some (t123 == 500))) else (some false))) else (some false))) else (some false)))) else (some false))) else (some false))) else (none))))) = some r := h
 clear h
 replace H := Option.bind_eq_some_iff.mp H
 obtain ⟨⟨t101, t102⟩, A10, H⟩ := H
 replace H : ((audit_Alike.f (⟨#[60, 112, 62]⟩ : ByteArray) (⟨#[60, 112, 32, 97, 62]⟩ : ByteArray)).bind fun bt103 => ((audit_Schemes.f k (⟨#[60, 97, 32, 104, 114, 101, 102, 61, 39, 72, 84, 84, 80, 58, 120, 39, 62, 60, 105, 109, 103, 32, 115, 114, 99, 61, 106, 97, 118, 97, 115, 99, 114, 105, 112, 116, 58, 49, 32, 116, 105, 116, 108, 101, 61, 39, 97, 58, 98, 39, 62]⟩ : ByteArray)).bind fun bt105 => (if 65537 ≤ 281474976710656 then ((audit_Schemes.f k (strOfNums (List.replicate 65537 0))).bind fun bt112 => (if t101 = true then ((stolelaw0_Num.f t102).bind fun t116 => (if t116 = 0 then (if bt103.1 = true then (some false) else ((stolelaw0_Num.f bt103.2).bind fun t117 => (if t117 = 0 then ((stolelaw0_SameTexts.f k bt105.1 (([(⟨#[104, 116, 116, 112]⟩ : ByteArray), (⟨#[106, 97, 118, 97, 115, 99, 114, 105, 112, 116]⟩ : ByteArray)] : List ByteArray))).bind fun t121 => (if t121 = true then ((stolelaw0_Num.f bt105.2).bind fun t122 => (if t122 = 0 then ((stolelaw0_Num.f bt112.2).bind fun t123 => (some (t123 == 500))) else (some false))) else (some false))) else (some false)))) else (some false))) else (some false))) else (none)))) = some r := H
 have A1 := Aside0.mk A10
 clear A10
 replace H := Option.bind_eq_some_iff.mp H
 obtain ⟨⟨t103, t104⟩, A20, H⟩ := H
 replace H : ((audit_Schemes.f k (⟨#[60, 97, 32, 104, 114, 101, 102, 61, 39, 72, 84, 84, 80, 58, 120, 39, 62, 60, 105, 109, 103, 32, 115, 114, 99, 61, 106, 97, 118, 97, 115, 99, 114, 105, 112, 116, 58, 49, 32, 116, 105, 116, 108, 101, 61, 39, 97, 58, 98, 39, 62]⟩ : ByteArray)).bind fun bt105 => (if 65537 ≤ 281474976710656 then ((audit_Schemes.f k (strOfNums (List.replicate 65537 0))).bind fun bt112 => (if t101 = true then ((stolelaw0_Num.f t102).bind fun t116 => (if t116 = 0 then (if t103 = true then (some false) else ((stolelaw0_Num.f t104).bind fun t117 => (if t117 = 0 then ((stolelaw0_SameTexts.f k bt105.1 (([(⟨#[104, 116, 116, 112]⟩ : ByteArray), (⟨#[106, 97, 118, 97, 115, 99, 114, 105, 112, 116]⟩ : ByteArray)] : List ByteArray))).bind fun t121 => (if t121 = true then ((stolelaw0_Num.f bt105.2).bind fun t122 => (if t122 = 0 then ((stolelaw0_Num.f bt112.2).bind fun t123 => (some (t123 == 500))) else (some false))) else (some false))) else (some false)))) else (some false))) else (some false))) else (none))) = some r := H
 have A2 := Aside0.mk A20
 clear A20
 replace H := Option.bind_eq_some_iff.mp H
 obtain ⟨⟨t105, t106⟩, A30, H⟩ := H
 replace H : (if 65537 ≤ 281474976710656 then ((audit_Schemes.f k (strOfNums (List.replicate 65537 0))).bind fun bt112 => (if t101 = true then ((stolelaw0_Num.f t102).bind fun t116 => (if t116 = 0 then (if t103 = true then (some false) else ((stolelaw0_Num.f t104).bind fun t117 => (if t117 = 0 then ((stolelaw0_SameTexts.f k t105 (([(⟨#[104, 116, 116, 112]⟩ : ByteArray), (⟨#[106, 97, 118, 97, 115, 99, 114, 105, 112, 116]⟩ : ByteArray)] : List ByteArray))).bind fun t121 => (if t121 = true then ((stolelaw0_Num.f t106).bind fun t122 => (if t122 = 0 then ((stolelaw0_Num.f bt112.2).bind fun t123 => (some (t123 == 500))) else (some false))) else (some false))) else (some false)))) else (some false))) else (some false))) else (none)) = some r := H
 have A3 := Aside0.mk A30
 clear A30
 by_cases c4 : 65537 ≤ 281474976710656
 ·rw [if_pos c4] at H
  have c4b0 := eq_true c4
  have c4b1 : decide (65537 ≤ 281474976710656) = true := decide_eq_true c4
  clear c4
  obtain ⟨y109, hy109⟩ : ∃ y_ : List Int, y_ = (List.replicate 65537 0) := ⟨_, rfl⟩
  replace H : ((audit_Schemes.f k (strOfNums y109)).bind fun bt112 => (if t101 = true then ((stolelaw0_Num.f t102).bind fun t116 => (if t116 = 0 then (if t103 = true then (some false) else ((stolelaw0_Num.f t104).bind fun t117 => (if t117 = 0 then ((stolelaw0_SameTexts.f k t105 (([(⟨#[104, 116, 116, 112]⟩ : ByteArray), (⟨#[106, 97, 118, 97, 115, 99, 114, 105, 112, 116]⟩ : ByteArray)] : List ByteArray))).bind fun t121 => (if t121 = true then ((stolelaw0_Num.f t106).bind fun t122 => (if t122 = 0 then ((stolelaw0_Num.f bt112.2).bind fun t123 => (some (t123 == 500))) else (some false))) else (some false))) else (some false)))) else (some false))) else (some false))) = some r := by first | (rw [hy109]; with_reducible exact H) | (have H2_ := (Option.bind_some _ _).symm.trans H; rw [hy109]; with_reducible exact H2_) | (have H2_ := (Option.bind_some _ _).symm.trans H; with_reducible exact H2_) | with_reducible exact H | (rw [hy109]; exact H) | exact H
  have Ny109 := Aside0.mk hy109
  clear hy109
  replace H := Option.bind_eq_some_iff.mp H
  obtain ⟨⟨t112, t113⟩, A50, H⟩ := H
  replace H : (if t101 = true then ((stolelaw0_Num.f t102).bind fun t116 => (if t116 = 0 then (if t103 = true then (some false) else ((stolelaw0_Num.f t104).bind fun t117 => (if t117 = 0 then ((stolelaw0_SameTexts.f k t105 (([(⟨#[104, 116, 116, 112]⟩ : ByteArray), (⟨#[106, 97, 118, 97, 115, 99, 114, 105, 112, 116]⟩ : ByteArray)] : List ByteArray))).bind fun t121 => (if t121 = true then ((stolelaw0_Num.f t106).bind fun t122 => (if t122 = 0 then ((stolelaw0_Num.f t113).bind fun t123 => (some (t123 == 500))) else (some false))) else (some false))) else (some false)))) else (some false))) else (some false)) = some r := H
  have A5 := Aside0.mk A50
  clear A50
  by_cases c6 : t101 = true
  ·subst c6
   have H1 : ((stolelaw0_Num.f t102).bind fun t116 => (if t116 = 0 then (if t103 = true then (some false) else ((stolelaw0_Num.f t104).bind fun t117 => (if t117 = 0 then ((stolelaw0_SameTexts.f k t105 (([(⟨#[104, 116, 116, 112]⟩ : ByteArray), (⟨#[106, 97, 118, 97, 115, 99, 114, 105, 112, 116]⟩ : ByteArray)] : List ByteArray))).bind fun t121 => (if t121 = true then ((stolelaw0_Num.f t106).bind fun t122 => (if t122 = 0 then ((stolelaw0_Num.f t113).bind fun t123 => (some (t123 == 500))) else (some false))) else (some false))) else (some false)))) else (some false))) = some r := by rw [if_pos rfl] at H; exact H
   clear H
   have H := H1
   clear H1
   replace H := Option.bind_eq_some_iff.mp H
   obtain ⟨t116, A70, H⟩ := H
   replace H : (if t116 = 0 then (if t103 = true then (some false) else ((stolelaw0_Num.f t104).bind fun t117 => (if t117 = 0 then ((stolelaw0_SameTexts.f k t105 (([(⟨#[104, 116, 116, 112]⟩ : ByteArray), (⟨#[106, 97, 118, 97, 115, 99, 114, 105, 112, 116]⟩ : ByteArray)] : List ByteArray))).bind fun t121 => (if t121 = true then ((stolelaw0_Num.f t106).bind fun t122 => (if t122 = 0 then ((stolelaw0_Num.f t113).bind fun t123 => (some (t123 == 500))) else (some false))) else (some false))) else (some false)))) else (some false)) = some r := H
   have A7 := Aside0.mk A70
   clear A70
   by_cases c8 : t116 = 0
   ·rw [if_pos c8] at H
    have c8b0 : (t116 == 0) = true := beq_iff_eq.mpr c8
    have c8b1 : (t116 != 0) = false := bne_eq_false_iff_eq.mpr c8
    clear c8
    by_cases c9 : t103 = true
    ·subst c9
     have H1 : (some false) = some r := by rw [if_pos rfl] at H; exact H
     clear H
     have H := H1
     clear H1
     obtain rfl := Option.some.inj H
     exact absurd hr (by simp)
    ·replace c9 := Bool.eq_false_iff.mpr c9
     subst c9
     have H1 : ((stolelaw0_Num.f t104).bind fun t117 => (if t117 = 0 then ((stolelaw0_SameTexts.f k t105 (([(⟨#[104, 116, 116, 112]⟩ : ByteArray), (⟨#[106, 97, 118, 97, 115, 99, 114, 105, 112, 116]⟩ : ByteArray)] : List ByteArray))).bind fun t121 => (if t121 = true then ((stolelaw0_Num.f t106).bind fun t122 => (if t122 = 0 then ((stolelaw0_Num.f t113).bind fun t123 => (some (t123 == 500))) else (some false))) else (some false))) else (some false))) = some r := by rw [if_neg (show ¬ (false = true) by decide)] at H; exact H
     clear H
     have H := H1
     clear H1
     replace H := Option.bind_eq_some_iff.mp H
     obtain ⟨t117, A170, H⟩ := H
     replace H : (if t117 = 0 then ((stolelaw0_SameTexts.f k t105 (([(⟨#[104, 116, 116, 112]⟩ : ByteArray), (⟨#[106, 97, 118, 97, 115, 99, 114, 105, 112, 116]⟩ : ByteArray)] : List ByteArray))).bind fun t121 => (if t121 = true then ((stolelaw0_Num.f t106).bind fun t122 => (if t122 = 0 then ((stolelaw0_Num.f t113).bind fun t123 => (some (t123 == 500))) else (some false))) else (some false))) else (some false)) = some r := H
     have A17 := Aside0.mk A170
     clear A170
     by_cases c18 : t117 = 0
     ·rw [if_pos c18] at H
      have c18b0 : (t117 == 0) = true := beq_iff_eq.mpr c18
      have c18b1 : (t117 != 0) = false := bne_eq_false_iff_eq.mpr c18
      clear c18
      obtain ⟨y118, hy118⟩ : ∃ y_ : List ByteArray, y_ = (([(⟨#[104, 116, 116, 112]⟩ : ByteArray), (⟨#[106, 97, 118, 97, 115, 99, 114, 105, 112, 116]⟩ : ByteArray)] : List ByteArray)) := ⟨_, rfl⟩
      replace H : ((stolelaw0_SameTexts.f k t105 y118).bind fun t121 => (if t121 = true then ((stolelaw0_Num.f t106).bind fun t122 => (if t122 = 0 then ((stolelaw0_Num.f t113).bind fun t123 => (some (t123 == 500))) else (some false))) else (some false))) = some r := by first | (rw [hy118]; with_reducible exact H) | (have H2_ := (Option.bind_some _ _).symm.trans H; rw [hy118]; with_reducible exact H2_) | (have H2_ := (Option.bind_some _ _).symm.trans H; with_reducible exact H2_) | with_reducible exact H | (rw [hy118]; exact H) | exact H
      have Ny118 := Aside0.mk hy118
      clear hy118
      replace H := Option.bind_eq_some_iff.mp H
      obtain ⟨t121, A190, H⟩ := H
      replace H : (if t121 = true then ((stolelaw0_Num.f t106).bind fun t122 => (if t122 = 0 then ((stolelaw0_Num.f t113).bind fun t123 => (some (t123 == 500))) else (some false))) else (some false)) = some r := H
      have A19 := Aside0.mk A190
      clear A190
      by_cases c20 : t121 = true
      ·subst c20
       have H1 : ((stolelaw0_Num.f t106).bind fun t122 => (if t122 = 0 then ((stolelaw0_Num.f t113).bind fun t123 => (some (t123 == 500))) else (some false))) = some r := by rw [if_pos rfl] at H; exact H
       clear H
       have H := H1
       clear H1
       replace H := Option.bind_eq_some_iff.mp H
       obtain ⟨t122, A210, H⟩ := H
       replace H : (if t122 = 0 then ((stolelaw0_Num.f t113).bind fun t123 => (some (t123 == 500))) else (some false)) = some r := H
       have A21 := Aside0.mk A210
       clear A210
       by_cases c22 : t122 = 0
       ·rw [if_pos c22] at H
        have c22b0 : (t122 == 0) = true := beq_iff_eq.mpr c22
        have c22b1 : (t122 != 0) = false := bne_eq_false_iff_eq.mpr c22
        clear c22
        replace H := Option.bind_eq_some_iff.mp H
        obtain ⟨t123, A230, H⟩ := H
        replace H : (some (t123 == 500)) = some r := H
        have A23 := Aside0.mk A230
        clear A230
        obtain rfl := Option.some.inj H
        go_enter Tryz.func41, Tryz.ntmps41
        go_wp2_with (first | ((with_reducible refine gate_callee (f := 37) rfl ?_); refine goesL_ (some 10) rfl rfl Tryz.func37 (by kernel_rfl) rfl #[.string (⟨#[60, 112, 62, 120, 60, 47, 112, 62]⟩ : ByteArray), .string (⟨#[60, 112, 62, 121, 38, 108, 116, 59, 60, 47, 112, 62]⟩ : ByteArray)] rfl (by (try simp only [List.map_toArray, List.map_cons, List.map_nil]); first | done | rfl | (simp only [List.length_drop, List.length_take]; rfl)) ?_; (with_reducible refine (audit_Alike.calls (⟨#[60, 112, 62, 120, 60, 47, 112, 62]⟩ : ByteArray) (⟨#[60, 112, 62, 121, 38, 108, 116, 59, 60, 47, 112, 62]⟩ : ByteArray) true t102 _ (tabs_below HT.out (by repeat (first | (with_reducible first | exact HB.out | apply below_alloc | apply pw_below_drewN | apply below_drew1) | exact HB.out))) A1.out).mono ?_); rintro e w24 ⟨rfl, hb⟩; refine ⟨_, rfl, ?_⟩; have n0_ := Aside0.mk (below_step (by repeat (first | (with_reducible first | exact HB.out | apply below_alloc | apply pw_below_drewN | apply below_drew1) | exact HB.out)) hb); clear HB; have HB := n0_; clear n0_; (try clear hb); (try clear hb2); (try clear hk); (try clear hi)) | ((with_reducible refine gate_callee (f := 37) rfl ?_); refine goesL_ (some 14) rfl rfl Tryz.func37 (by kernel_rfl) rfl #[.string (⟨#[60, 112, 62]⟩ : ByteArray), .string (⟨#[60, 112, 32, 97, 62]⟩ : ByteArray)] rfl (by (try simp only [List.map_toArray, List.map_cons, List.map_nil]); first | done | rfl | (simp only [List.length_drop, List.length_take]; rfl)) ?_; (with_reducible refine (audit_Alike.calls (⟨#[60, 112, 62]⟩ : ByteArray) (⟨#[60, 112, 32, 97, 62]⟩ : ByteArray) false t104 _ (tabs_below HT.out (by repeat (first | (with_reducible first | exact HB.out | apply below_alloc | apply pw_below_drewN | apply below_drew1) | exact HB.out))) A2.out).mono ?_); rintro e w25 ⟨rfl, hb⟩; refine ⟨_, rfl, ?_⟩; have n0_ := Aside0.mk (below_step (by repeat (first | (with_reducible first | exact HB.out | apply below_alloc | apply pw_below_drewN | apply below_drew1) | exact HB.out)) hb); clear HB; have HB := n0_; clear n0_; (try clear hb); (try clear hb2); (try clear hk); (try clear hi)) | ((with_reducible refine gate_callee (f := 39) rfl ?_); refine goesL_ (some 18) rfl rfl Tryz.func39 (by kernel_rfl) rfl #[.string (⟨#[60, 97, 32, 104, 114, 101, 102, 61, 39, 72, 84, 84, 80, 58, 120, 39, 62, 60, 105, 109, 103, 32, 115, 114, 99, 61, 106, 97, 118, 97, 115, 99, 114, 105, 112, 116, 58, 49, 32, 116, 105, 116, 108, 101, 61, 39, 97, 58, 98, 39, 62]⟩ : ByteArray)] rfl (by (try simp only [List.map_toArray, List.map_cons, List.map_nil]); first | done | rfl | (simp only [List.length_drop, List.length_take]; rfl)) ?_; (with_reducible refine (audit_Schemes.calls k (⟨#[60, 97, 32, 104, 114, 101, 102, 61, 39, 72, 84, 84, 80, 58, 120, 39, 62, 60, 105, 109, 103, 32, 115, 114, 99, 61, 106, 97, 118, 97, 115, 99, 114, 105, 112, 116, 58, 49, 32, 116, 105, 116, 108, 101, 61, 39, 97, 58, 98, 39, 62]⟩ : ByteArray) t105 t106 _ (tabs_below HT.out (by repeat (first | (with_reducible first | exact HB.out | apply below_alloc | apply pw_below_drewN | apply below_drew1) | exact HB.out))) A3.out).mono ?_); rintro e w26 ⟨v107, rfl, ho0, hb⟩; refine ⟨_, rfl, ?_⟩; have n0_ := Aside0.mk (Kd.R_lower ho0 (below_size (by repeat (first | (with_reducible first | exact HB.out | apply below_alloc | apply pw_below_drewN | apply below_drew1) | exact HB.out)))); have n1_ := Aside0.mk (below_step (by repeat (first | (with_reducible first | exact HB.out | apply below_alloc | apply pw_below_drewN | apply below_drew1) | exact HB.out)) hb); clear HB; have HO108 := n0_; have HB := n1_; clear n0_ n1_; (try clear hb); (try clear hb2); (try clear hk); (try clear hi); (try clear ho0)) | ((with_reducible refine gate_dst (N := 22) rfl ?_); (try (refine gate_guard (by rfl) ?_; dsimp only)); refine Kd.R_make (Kd.int .u8) _ 5 rfl (N := 22) rfl 37 _ _ rfl 65537 rfl rfl Tryz.underlying37 (.int .u8 0) 1 info5 rfl (by decide) (by omega) 0 (ok := fun _ => True) (okp := fun _ => True) rfl (fun _ hk => hk) trivial (by omega) (by omega) (Below.refl _ _) (Nat.le_refl _) ?_; intro v110 w27 ho28 hb hg_ hnew_; clear hg_ hnew_; (first | rw [← Ny109.out] at ho28 | (simp only [Int.reduceToNat] at ho28; rw [← Ny109.out] at ho28)); have n0_ := Aside0.mk (Kd.R_below (by (with_reducible repeat (first | apply Kd.R_alloc | apply Kd.R_drewN | apply Kd.R_drew)); exact HO108.out) hb); have n1_ := Aside0.mk (Kd.R_lower ho28 (below_size (by repeat (first | (with_reducible first | exact HB.out | apply below_alloc | apply pw_below_drewN | apply below_drew1) | exact HB.out)))); have n2_ := Aside0.mk (below_step (by repeat (first | (with_reducible first | exact HB.out | apply below_alloc | apply pw_below_drewN | apply below_drew1) | exact HB.out)) hb); clear HO108; clear HB; have HO108 := n0_; have HO111 := n1_; have HB := n2_; clear n0_ n1_ n2_; clear hb ho28; have hcv29 := own_string (P := Tryz.prog) Tryz.underlying37 Tryz.underlying5 Tryz.underlying9 (Kd.own_of_R HO111.out)) | ((with_reducible refine gate_callee (f := 39) rfl ?_); refine goesL_ (some 24) rfl rfl Tryz.func39 (by kernel_rfl) rfl #[.string (strOfNums y109)] rfl (by (try simp only [List.map_toArray, List.map_cons, List.map_nil]); first | done | rfl | (simp only [List.length_drop, List.length_take]; rfl)) ?_; (with_reducible refine (audit_Schemes.calls k (strOfNums y109) t112 t113 _ (tabs_below HT.out (by repeat (first | (with_reducible first | exact HB.out | apply below_alloc | apply pw_below_drewN | apply below_drew1) | exact HB.out))) A5.out).mono ?_); rintro e w30 ⟨v114, rfl, ho0, hb⟩; refine ⟨_, rfl, ?_⟩; have n0_ := Aside0.mk (Kd.R_elder' (by (with_reducible repeat (first | apply Kd.R_alloc | apply Kd.R_drewN | apply Kd.R_drew)); exact HO108.out) (Kd.R_base ho0) hb); have n1_ := Aside0.mk (Kd.R_below (by (with_reducible repeat (first | apply Kd.R_alloc | apply Kd.R_drewN | apply Kd.R_drew)); exact HO111.out) hb); have n2_ := Aside0.mk (Kd.R_lower (Kd.R_new' ho0 (Kd.R_lt (by (with_reducible repeat (first | apply Kd.R_alloc | apply Kd.R_drewN | apply Kd.R_drew)); exact HO108.out))) (below_size (by repeat (first | (with_reducible first | exact HB.out | apply below_alloc | apply pw_below_drewN | apply below_drew1) | exact HB.out)))); have n3_ := Aside0.mk (below_step (by repeat (first | (with_reducible first | exact HB.out | apply below_alloc | apply pw_below_drewN | apply below_drew1) | exact HB.out)) hb); clear HO108; clear HO111; clear HB; have HO108 := n0_; have HO111 := n1_; have HO115 := n2_; have HB := n3_; clear n0_ n1_ n2_ n3_; (try clear hb); (try clear hb2); (try clear hk); (try clear hi); (try clear ho0)) | (go_at_call 21; (with_reducible refine (stolelaw0_Num.calls t102 t116 _ A7.out).mono ?_); rintro e w' ⟨rfl, ⟨nd, rfl⟩⟩) | (go_at_call 21; (with_reducible refine (stolelaw0_Num.calls t104 t117 _ A17.out).mono ?_); rintro e w' ⟨rfl, ⟨nd, rfl⟩⟩) | ((with_reducible refine gate_dst (N := 44) rfl ?_); (try (refine gate_guard (by rfl) ?_; dsimp only)); refine Kd.R_lit Kd.string _ 9 ?hg (N := 44) ?hd (xs := ([(⟨#[104, 116, 116, 112]⟩ : ByteArray), (⟨#[106, 97, 118, 97, 115, 99, 114, 105, 112, 116]⟩ : ByteArray)] : List ByteArray)) (inner := [.string (⟨#[104, 116, 116, 112]⟩ : ByteArray), .string (⟨#[106, 97, 118, 97, 115, 99, 114, 105, 112, 116]⟩ : ByteArray)]) (ok := fun _ => True) (okp := fun _ => True) ?hr ?hp (fun _ hk => hk) trivial (Below.refl _ _) (Nat.le_refl _) (by simp) ?_; (case hd => rfl); (case hg => rfl); (case hr => first | (go_simp; done) | (go_simp; rfl)); (case hp => exact (Reps.one (show Kd.M Kd.string _ _ _ (⟨#[104, 116, 116, 112]⟩ : ByteArray) [.string (⟨#[104, 116, 116, 112]⟩ : ByteArray)] from rfl) (Reps.one (show Kd.M Kd.string _ _ _ (⟨#[106, 97, 118, 97, 115, 99, 114, 105, 112, 116]⟩ : ByteArray) [.string (⟨#[106, 97, 118, 97, 115, 99, 114, 105, 112, 116]⟩ : ByteArray)] from rfl) (Reps.none _ _)))); intro v119 w31 ho32 hb hg_ hnew_; clear hg_ hnew_; (first | rw [← Ny118.out] at ho32 | (simp only [Int.reduceToNat] at ho32; rw [← Ny118.out] at ho32)); have n0_ := Aside0.mk (Kd.R_elder' (by (with_reducible repeat (first | apply Kd.R_alloc | apply Kd.R_drewN | apply Kd.R_drew)); exact HO108.out) (Kd.R_base ho32) hb); have n1_ := Aside0.mk (Kd.R_below (by (with_reducible repeat (first | apply Kd.R_alloc | apply Kd.R_drewN | apply Kd.R_drew)); exact HO111.out) hb); have n2_ := Aside0.mk (Kd.R_elder' (by (with_reducible repeat (first | apply Kd.R_alloc | apply Kd.R_drewN | apply Kd.R_drew)); exact HO115.out) (Kd.R_base ho32) hb); have n3_ := Aside0.mk (Kd.R_lower (Kd.R_new' (Kd.R_new' ho32 (Kd.R_lt (by (with_reducible repeat (first | apply Kd.R_alloc | apply Kd.R_drewN | apply Kd.R_drew)); exact HO108.out))) (Kd.R_lt (by (with_reducible repeat (first | apply Kd.R_alloc | apply Kd.R_drewN | apply Kd.R_drew)); exact HO115.out))) (below_size (by repeat (first | (with_reducible first | exact HB.out | apply below_alloc | apply pw_below_drewN | apply below_drew1) | exact HB.out)))); have n4_ := Aside0.mk (below_step (by repeat (first | (with_reducible first | exact HB.out | apply below_alloc | apply pw_below_drewN | apply below_drew1) | exact HB.out)) hb); clear HO108; clear HO111; clear HO115; clear HB; have HO108 := n0_; have HO111 := n1_; have HO115 := n2_; have HO120 := n3_; have HB := n4_; clear n0_ n1_ n2_ n3_ n4_; clear hb ho32; obtain ⟨Ao33, co33, eo33⟩ := Kd.R_slice HO108.out; subst eo33; obtain ⟨Ao34, co34, eo34⟩ := Kd.R_slice HO120.out; subst eo34) | (go_at_call 34; (with_reducible refine (stolelaw0_SameTexts.calls k _ _ t105 _ _ y118 true _ ?side1 ?side2 ?side3 ?side4 A19.out).mono ?_); (case side1 => repeat (first | exact (Kd.R_reads' HO108.out).2.2 | (with_reducible refine Kd.C_alloc ?_ _) | (with_reducible refine Kd.C_drewN ?_ _) | (with_reducible refine Kd.C_drew ?_))); (case side2 => exact (Kd.R_reads' HO108.out).2.1); (case side3 => repeat (first | exact (Kd.R_reads' HO120.out).2.2 | (with_reducible refine Kd.C_alloc ?_ _) | (with_reducible refine Kd.C_drewN ?_ _) | (with_reducible refine Kd.C_drew ?_))); (case side4 => exact (Kd.R_reads' HO120.out).2.1); rintro e w' ⟨rfl, ⟨nd, rfl⟩⟩) | (go_at_call 21; (with_reducible refine (stolelaw0_Num.calls t106 t122 _ A21.out).mono ?_); rintro e w' ⟨rfl, ⟨nd, rfl⟩⟩) | (go_at_call 21; (with_reducible refine (stolelaw0_Num.calls t113 t123 _ A23.out).mono ?_); rintro e w' ⟨rfl, ⟨nd, rfl⟩⟩))
        go_ret
        exact ⟨by first | rfl | (simp [errW_none, errW_some] <;> rfl) | (simp [*, errW_none, errW_some] <;> rfl), by repeat (first | (with_reducible first | exact HB.out | apply below_alloc | apply pw_below_drewN | apply below_drew1) | exact HB.out)⟩
       ·rw [if_neg c22] at H
        have c22b0 : (t122 == 0) = false := beq_eq_false_iff_ne.mpr c22
        have c22b1 : (t122 != 0) = true := bne_iff_ne.mpr c22
        obtain rfl := Option.some.inj H
        exact absurd hr (by simp)
      ·replace c20 := Bool.eq_false_iff.mpr c20
       subst c20
       have H1 : (some false) = some r := by rw [if_neg (show ¬ (false = true) by decide)] at H; exact H
       clear H
       have H := H1
       clear H1
       obtain rfl := Option.some.inj H
       exact absurd hr (by simp)
     ·rw [if_neg c18] at H
      have c18b0 : (t117 == 0) = false := beq_eq_false_iff_ne.mpr c18
      have c18b1 : (t117 != 0) = true := bne_iff_ne.mpr c18
      obtain rfl := Option.some.inj H
      exact absurd hr (by simp)
   ·rw [if_neg c8] at H
    have c8b0 : (t116 == 0) = false := beq_eq_false_iff_ne.mpr c8
    have c8b1 : (t116 != 0) = true := bne_iff_ne.mpr c8
    obtain rfl := Option.some.inj H
    exact absurd hr (by simp)
  ·replace c6 := Bool.eq_false_iff.mpr c6
   subst c6
   have H1 : (some false) = some r := by rw [if_neg (show ¬ (false = true) by decide)] at H; exact H
   clear H
   have H := H1
   clear H1
   obtain rfl := Option.some.inj H
   exact absurd hr (by simp)
 ·rw [if_neg c4] at H
  exact absurd H (by simp)
/-! ### stolelaw24_AuditTexts: function 10 -/
/-! ### stolelaw24_AuditLong: function 13 -/
def stolelaw24_AuditLong.j0 : Nat → Bool → Bool → Int → Bool → Int → List ByteArray → Int → ByteArray → Option (Bool)
 | 0, _, _, _, _, _, _, _, _ => none
 | k + 1, x7, x8, x9, x10, x11, x12, x13, x14 => (audit_Alike.f x14 x14).bind fun bt152 => (if x7 = true then ((stolelaw0_Num.f x9).bind fun t154 => (if t154 = 0 then (if x8 = true then ((stolelaw0_Num.f x11).bind fun t155 => (if t155 = 0 then (if x10 = true then ((stolelaw0_Num.f x13).bind fun t156 => (if t156 = 0 then (if (x12.length : Int) = 0 then ((stolelaw0_Num.f bt152.2).bind fun t157 => (some (t157 == 0))) else (some false)) else (some false))) else (some false)) else (some false))) else (some false)) else (some false))) else ((stolelaw0_Num.f x9).bind fun t158 => (if t158 = 500 then (if x8 = true then (some false) else ((stolelaw0_Num.f x11).bind fun t159 => (if t159 = 500 then (if x10 = true then (some false) else ((stolelaw0_Num.f x13).bind fun t160 => (if t160 = 500 then (if (x12.length : Int) = 0 then ((stolelaw0_Num.f bt152.2).bind fun t161 => (some (t161 == 0))) else (some false)) else (some false)))) else (some false)))) else (some false))))
def stolelaw24_AuditLong.f (k : Nat) (a0 : Int) (a1 : ByteArray) : Option (Bool) := (stolelaw24_awake.f k).bind fun t140 => (if t140 = true then (if 0 ≤ (wrap64 (65532 + (Go.bits .and .i64 a0 7))) then (if (wrap64 (65532 + (Go.bits .and .i64 a0 7)) : Int).toNat ≤ 281474976710656 then ((some (List.replicate (wrap64 (65532 + (Go.bits .and .i64 a0 7)) : Int).toNat 0 : List Int)).bind fun y141 => ((audit_Alike.f (strOfNums y141) (⟨#[120]⟩ : ByteArray)).bind fun bt144 => ((audit_Alike.f (⟨#[120]⟩ : ByteArray) (strOfNums y141)).bind fun bt146 => ((audit_Schemes.f k (strOfNums y141)).bind fun bt148 => (if (a1.size : Int) > 100 then (if 0 ≤ 100 then (if 100 ≤ (a1.size : Int) then (stolelaw24_AuditLong.j0 k (decide ((wrap64 (65532 + (Go.bits .and .i64 a0 7))) ≤ 65536)) bt144.1 bt144.2 bt146.1 bt146.2 bt148.1 bt148.2 (a1.extract 0 100)) else (none)) else (none)) else (stolelaw24_AuditLong.j0 k (decide ((wrap64 (65532 + (Go.bits .and .i64 a0 7))) ≤ 65536)) bt144.1 bt144.2 bt146.1 bt146.2 bt148.1 bt148.2 a1)))))) else (none)) else (none)) else (some false))
theorem stolelaw24_AuditLong.mono_l : ∀ k, (∀ y0 y1 y2 y3 y4 y5 y6 y7, LeO (stolelaw24_AuditLong.j0 k y0 y1 y2 y3 y4 y5 y6 y7) (stolelaw24_AuditLong.j0 (k + 1) y0 y1 y2 y3 y4 y5 y6 y7))
 | 0 => fun _ _ _ _ _ _ _ _ r h => by simp [stolelaw24_AuditLong.j0] at h
 | k + 1 => by
  have ih0 := stolelaw24_AuditLong.mono_l k
  ·intro y0 y1 y2 y3 y4 y5 y6 y7
   unfold stolelaw24_AuditLong.j0
   repeat' first
   | (with_reducible exact ih0 _ _ _ _ _ _ _ _)
   | (with_reducible exact audit_Schemes.mono _ _)
   | (with_reducible exact stolelaw24_awake.mono _)
   | (with_reducible exact LeO.refl _)
   | (with_reducible exact LeO.none _)
   | (with_reducible refine LeO.ite ?_ ?_)
   | (with_reducible refine LeO.bind ?_ (fun _ => ?_))
   | exact ih0 _ _ _ _ _ _ _ _
   | exact audit_Schemes.mono _ _
   | exact stolelaw24_awake.mono _
   | exact LeO.none _
   | refine LeO.ite ?_ ?_
   | refine LeO.bind ?_ (fun _ => ?_)
theorem stolelaw24_AuditLong.mono : ∀ a0 a1 k, LeO (stolelaw24_AuditLong.f k a0 a1) (stolelaw24_AuditLong.f (k + 1) a0 a1) := by
 intro a0 a1 k
 have ih0 := stolelaw24_AuditLong.mono_l k
 unfold stolelaw24_AuditLong.f
 repeat' first
   | (with_reducible exact ih0 _ _ _ _ _ _ _ _)
   | (with_reducible exact audit_Schemes.mono _ _)
   | (with_reducible exact stolelaw24_awake.mono _)
   | (with_reducible exact LeO.refl _)
   | (with_reducible exact LeO.none _)
   | (with_reducible refine LeO.ite ?_ ?_)
   | (with_reducible refine LeO.bind ?_ (fun _ => ?_))
   | exact ih0 _ _ _ _ _ _ _ _
   | exact audit_Schemes.mono _ _
   | exact stolelaw24_awake.mono _
   | exact LeO.none _
   | refine LeO.ite ?_ ?_
   | refine LeO.bind ?_ (fun _ => ?_)
set_option maxHeartbeats 8000000 in
set_option maxRecDepth 100000 in
theorem stolelaw24_AuditLong.calls (k : Nat) (a0 : Int) (a1 : ByteArray) (r : Bool) (w : World) (hT : Tabs w) (h : stolelaw24_AuditLong.f k a0 a1 = some r) (hr : r = true) :
  Calls Tryz.prog 13 #[.int .i64 a0, .string a1] w fun e w' => e = .returned (.bool r) ∧ Below w.heap.size w w' := by
 have HT := Aside0.mk hT
 clear hT
 have HB := Aside0.mk (Below.refl w.heap.size w)
 have H : ((stolelaw24_awake.f k).bind fun t140 => (if t140 = true then (if 0 ≤ (wrap64 (65532 + (Go.bits .and .i64 a0 7))) then (if (wrap64 (65532 + (Go.bits .and .i64 a0 7)) : Int).toNat ≤ 281474976710656 then ((some (List.replicate (wrap64 (65532 + (Go.bits .and .i64 a0 7)) : Int).toNat 0 : List Int)).bind fun y141 => ((audit_Alike.f (strOfNums y141) (⟨#[120]⟩ : ByteArray)).bind fun bt144 => ((audit_Alike.f (⟨#[120]⟩ : ByteArray) (strOfNums y141)).bind fun bt146 => ((audit_Schemes.f k (strOfNums y141)).bind fun bt148 => (if (a1.size : Int) > 100 then (if 0 ≤ 100 then (if 100 ≤ (a1.size : Int) then (stolelaw24_AuditLong.j0 k (decide ((wrap64 (65532 + (Go.bits .and .i64 a0 7))) ≤ 65536)) bt144.1 bt144.2 bt146.1 bt146.2 bt148.1 bt148.2 (a1.extract 0 100)) else (none)) else (none)) else (stolelaw24_AuditLong.j0 k (decide ((wrap64 (65532 + (Go.bits .and .i64 a0 7))) ≤ 65536)) bt144.1 bt144.2 bt146.1 bt146.2 bt148.1 bt148.2 a1)))))) else (none)) else (none)) else (some false))) = some r := h
 clear h
 replace H := Option.bind_eq_some_iff.mp H
 obtain ⟨t140, A30, H⟩ := H
 replace H : (if t140 = true then (if 0 ≤ (wrap64 (65532 + (Go.bits .and .i64 a0 7))) then (if (wrap64 (65532 + (Go.bits .and .i64 a0 7)) : Int).toNat ≤ 281474976710656 then ((some (List.replicate (wrap64 (65532 + (Go.bits .and .i64 a0 7)) : Int).toNat 0 : List Int)).bind fun y141 => ((audit_Alike.f (strOfNums y141) (⟨#[120]⟩ : ByteArray)).bind fun bt144 => ((audit_Alike.f (⟨#[120]⟩ : ByteArray) (strOfNums y141)).bind fun bt146 => ((audit_Schemes.f k (strOfNums y141)).bind fun bt148 => (if (a1.size : Int) > 100 then (if 0 ≤ 100 then (if 100 ≤ (a1.size : Int) then (stolelaw24_AuditLong.j0 k (decide ((wrap64 (65532 + (Go.bits .and .i64 a0 7))) ≤ 65536)) bt144.1 bt144.2 bt146.1 bt146.2 bt148.1 bt148.2 (a1.extract 0 100)) else (none)) else (none)) else (stolelaw24_AuditLong.j0 k (decide ((wrap64 (65532 + (Go.bits .and .i64 a0 7))) ≤ 65536)) bt144.1 bt144.2 bt146.1 bt146.2 bt148.1 bt148.2 a1)))))) else (none)) else (none)) else (some false)) = some r := H
 have A3 := Aside0.mk A30
 clear A30
 by_cases c4 : t140 = true
 ·subst c4
  have H1 : (if 0 ≤ (wrap64 (65532 + (Go.bits .and .i64 a0 7))) then (if (wrap64 (65532 + (Go.bits .and .i64 a0 7)) : Int).toNat ≤ 281474976710656 then ((some (List.replicate (wrap64 (65532 + (Go.bits .and .i64 a0 7)) : Int).toNat 0 : List Int)).bind fun y141 => ((audit_Alike.f (strOfNums y141) (⟨#[120]⟩ : ByteArray)).bind fun bt144 => ((audit_Alike.f (⟨#[120]⟩ : ByteArray) (strOfNums y141)).bind fun bt146 => ((audit_Schemes.f k (strOfNums y141)).bind fun bt148 => (if (a1.size : Int) > 100 then (if 0 ≤ 100 then (if 100 ≤ (a1.size : Int) then (stolelaw24_AuditLong.j0 k (decide ((wrap64 (65532 + (Go.bits .and .i64 a0 7))) ≤ 65536)) bt144.1 bt144.2 bt146.1 bt146.2 bt148.1 bt148.2 (a1.extract 0 100)) else (none)) else (none)) else (stolelaw24_AuditLong.j0 k (decide ((wrap64 (65532 + (Go.bits .and .i64 a0 7))) ≤ 65536)) bt144.1 bt144.2 bt146.1 bt146.2 bt148.1 bt148.2 a1)))))) else (none)) else (none)) = some r := by rw [if_pos rfl] at H; exact H
  clear H
  have H := H1
  clear H1
  obtain ⟨ji5, hji5⟩ : ∃ j_ : Int, (wrap64 (65532 + (Go.bits .and .i64 a0 7))) = j_ := ⟨_, rfl⟩
  replace H : (if 0 ≤ (ji5) then (if (ji5 : Int).toNat ≤ 281474976710656 then ((some (List.replicate (ji5 : Int).toNat 0 : List Int)).bind fun y141 => ((audit_Alike.f (strOfNums y141) (⟨#[120]⟩ : ByteArray)).bind fun bt144 => ((audit_Alike.f (⟨#[120]⟩ : ByteArray) (strOfNums y141)).bind fun bt146 => ((audit_Schemes.f k (strOfNums y141)).bind fun bt148 => (if (a1.size : Int) > 100 then (if 0 ≤ 100 then (if 100 ≤ (a1.size : Int) then (stolelaw24_AuditLong.j0 k (decide ((ji5) ≤ 65536)) bt144.1 bt144.2 bt146.1 bt146.2 bt148.1 bt148.2 (a1.extract 0 100)) else (none)) else (none)) else (stolelaw24_AuditLong.j0 k (decide ((ji5) ≤ 65536)) bt144.1 bt144.2 bt146.1 bt146.2 bt148.1 bt148.2 a1)))))) else (none)) else (none)) = some r := by first | (rw [hji5] at H; exact H) | (simp only [hji5] at H ⊢; exact H)
  (try rw [hji5] at A3)
  have hji5w : (IntKind.i64.wrap (65532 + (Go.bits .and .i64 a0 7))) = ji5 := (i64_w _).trans hji5
  by_cases c6 : 0 ≤ (ji5)
  ·rw [if_pos c6] at H
   have c6b0 := eq_true c6
   have c6b1 : decide (0 ≤ (ji5)) = true := decide_eq_true c6
   clear c6
   by_cases c7 : (ji5 : Int).toNat ≤ 281474976710656
   ·rw [if_pos c7] at H
    have c7b0 := eq_true c7
    have c7b1 : decide ((ji5 : Int).toNat ≤ 281474976710656) = true := decide_eq_true c7
    clear c7
    obtain ⟨y141, hy141⟩ : ∃ y_ : List Int, y_ = (List.replicate (ji5 : Int).toNat 0) := ⟨_, rfl⟩
    replace H : ((audit_Alike.f (strOfNums y141) (⟨#[120]⟩ : ByteArray)).bind fun bt144 => ((audit_Alike.f (⟨#[120]⟩ : ByteArray) (strOfNums y141)).bind fun bt146 => ((audit_Schemes.f k (strOfNums y141)).bind fun bt148 => (if (a1.size : Int) > 100 then (if 0 ≤ 100 then (if 100 ≤ (a1.size : Int) then (stolelaw24_AuditLong.j0 k (decide ((ji5) ≤ 65536)) bt144.1 bt144.2 bt146.1 bt146.2 bt148.1 bt148.2 (a1.extract 0 100)) else (none)) else (none)) else (stolelaw24_AuditLong.j0 k (decide ((ji5) ≤ 65536)) bt144.1 bt144.2 bt146.1 bt146.2 bt148.1 bt148.2 a1))))) = some r := by first | (rw [hy141]; with_reducible exact H) | (have H2_ := (Option.bind_some _ _).symm.trans H; rw [hy141]; with_reducible exact H2_) | (have H2_ := (Option.bind_some _ _).symm.trans H; with_reducible exact H2_) | with_reducible exact H | (rw [hy141]; exact H) | exact H
    have Ny141 := Aside0.mk hy141
    clear hy141
    replace H := Option.bind_eq_some_iff.mp H
    obtain ⟨⟨t144, t145⟩, A80, H⟩ := H
    replace H : ((audit_Alike.f (⟨#[120]⟩ : ByteArray) (strOfNums y141)).bind fun bt146 => ((audit_Schemes.f k (strOfNums y141)).bind fun bt148 => (if (a1.size : Int) > 100 then (if 0 ≤ 100 then (if 100 ≤ (a1.size : Int) then (stolelaw24_AuditLong.j0 k (decide ((ji5) ≤ 65536)) t144 t145 bt146.1 bt146.2 bt148.1 bt148.2 (a1.extract 0 100)) else (none)) else (none)) else (stolelaw24_AuditLong.j0 k (decide ((ji5) ≤ 65536)) t144 t145 bt146.1 bt146.2 bt148.1 bt148.2 a1)))) = some r := H
    have A8 := Aside0.mk A80
    clear A80
    replace H := Option.bind_eq_some_iff.mp H
    obtain ⟨⟨t146, t147⟩, A90, H⟩ := H
    replace H : ((audit_Schemes.f k (strOfNums y141)).bind fun bt148 => (if (a1.size : Int) > 100 then (if 0 ≤ 100 then (if 100 ≤ (a1.size : Int) then (stolelaw24_AuditLong.j0 k (decide ((ji5) ≤ 65536)) t144 t145 t146 t147 bt148.1 bt148.2 (a1.extract 0 100)) else (none)) else (none)) else (stolelaw24_AuditLong.j0 k (decide ((ji5) ≤ 65536)) t144 t145 t146 t147 bt148.1 bt148.2 a1))) = some r := H
    have A9 := Aside0.mk A90
    clear A90
    replace H := Option.bind_eq_some_iff.mp H
    obtain ⟨⟨t148, t149⟩, A100, H⟩ := H
    replace H : (if (a1.size : Int) > 100 then (if 0 ≤ 100 then (if 100 ≤ (a1.size : Int) then (stolelaw24_AuditLong.j0 k (decide ((ji5) ≤ 65536)) t144 t145 t146 t147 t148 t149 (a1.extract 0 100)) else (none)) else (none)) else (stolelaw24_AuditLong.j0 k (decide ((ji5) ≤ 65536)) t144 t145 t146 t147 t148 t149 a1)) = some r := H
    have A10 := Aside0.mk A100
    clear A100
    have HC11 := Aside0.mk H
    clear H
    go_enter Tryz.func13, Tryz.ntmps13
    go_upto_if 45 with (first | ((with_reducible refine gate_callee (f := 41) rfl ?_); refine goesL_ (some 17) rfl rfl Tryz.func41 (by kernel_rfl) rfl #[] rfl (by (try simp only [List.map_toArray, List.map_cons, List.map_nil]); first | done | rfl | (simp only [List.length_drop, List.length_take]; rfl)) ?_; (with_reducible refine (stolelaw24_awake.calls k  true _ (tabs_below HT.out (by repeat (first | (with_reducible first | exact HB.out | apply below_alloc | apply pw_below_drewN | apply below_drew1) | exact HB.out))) A3.out rfl).mono ?_); rintro e w12 ⟨rfl, hb⟩; refine ⟨_, rfl, ?_⟩; have n0_ := Aside0.mk (below_step (by repeat (first | (with_reducible first | exact HB.out | apply below_alloc | apply pw_below_drewN | apply below_drew1) | exact HB.out)) hb); clear HB; have HB := n0_; clear n0_; (try clear hb); (try clear hb2); (try clear hk); (try clear hi)) | ((with_reducible refine gate_dst (N := 23) rfl ?_); (try (refine gate_guard (by rfl) ?_; dsimp only)); refine Kd.R_make (Kd.int .u8) _ 5 rfl (N := 23) rfl 37 _ _ rfl ji5 rfl rfl Tryz.underlying37 (.int .u8 0) 1 info5 rfl (by decide) (by omega) 0 (ok := fun _ => True) (okp := fun _ => True) rfl (fun _ hk => hk) trivial (of_decide_eq_true (by first | (with_reducible assumption) | assumption)) (Nat.le_trans (Nat.mul_le_mul_right _ (of_decide_eq_true (by first | (with_reducible assumption) | assumption) : ji5.toNat ≤ 281474976710656)) (by omega)) (Below.refl _ _) (Nat.le_refl _) ?_; intro v142 w13 ho14 hb hg_ hnew_; clear hg_ hnew_; (first | rw [← Ny141.out] at ho14 | (simp only [Int.reduceToNat] at ho14; rw [← Ny141.out] at ho14)); have n0_ := Aside0.mk (Kd.R_lower ho14 (below_size (by repeat (first | (with_reducible first | exact HB.out | apply below_alloc | apply pw_below_drewN | apply below_drew1) | exact HB.out)))); have n1_ := Aside0.mk (below_step (by repeat (first | (with_reducible first | exact HB.out | apply below_alloc | apply pw_below_drewN | apply below_drew1) | exact HB.out)) hb); clear HB; have HO143 := n0_; have HB := n1_; clear n0_ n1_; clear hb ho14; have hcv15 := own_string (P := Tryz.prog) Tryz.underlying37 Tryz.underlying5 Tryz.underlying9 (Kd.own_of_R HO143.out)) | ((with_reducible refine gate_callee (f := 37) rfl ?_); refine goesL_ (some 29) rfl rfl Tryz.func37 (by kernel_rfl) rfl #[.string (strOfNums y141), .string (⟨#[120]⟩ : ByteArray)] rfl (by (try simp only [List.map_toArray, List.map_cons, List.map_nil]); first | done | rfl | (simp only [List.length_drop, List.length_take]; rfl)) ?_; (with_reducible refine (audit_Alike.calls (strOfNums y141) (⟨#[120]⟩ : ByteArray) t144 t145 _ (tabs_below HT.out (by repeat (first | (with_reducible first | exact HB.out | apply below_alloc | apply pw_below_drewN | apply below_drew1) | exact HB.out))) A8.out).mono ?_); rintro e w16 ⟨rfl, hb⟩; refine ⟨_, rfl, ?_⟩; have n0_ := Aside0.mk (Kd.R_below (by (with_reducible repeat (first | apply Kd.R_alloc | apply Kd.R_drewN | apply Kd.R_drew)); exact HO143.out) hb); have n1_ := Aside0.mk (below_step (by repeat (first | (with_reducible first | exact HB.out | apply below_alloc | apply pw_below_drewN | apply below_drew1) | exact HB.out)) hb); clear HO143; clear HB; have HO143 := n0_; have HB := n1_; clear n0_ n1_; (try clear hb); (try clear hb2); (try clear hk); (try clear hi)) | ((with_reducible refine gate_callee (f := 37) rfl ?_); refine goesL_ (some 34) rfl rfl Tryz.func37 (by kernel_rfl) rfl #[.string (⟨#[120]⟩ : ByteArray), .string (strOfNums y141)] rfl (by (try simp only [List.map_toArray, List.map_cons, List.map_nil]); first | done | rfl | (simp only [List.length_drop, List.length_take]; rfl)) ?_; (with_reducible refine (audit_Alike.calls (⟨#[120]⟩ : ByteArray) (strOfNums y141) t146 t147 _ (tabs_below HT.out (by repeat (first | (with_reducible first | exact HB.out | apply below_alloc | apply pw_below_drewN | apply below_drew1) | exact HB.out))) A9.out).mono ?_); rintro e w17 ⟨rfl, hb⟩; refine ⟨_, rfl, ?_⟩; have n0_ := Aside0.mk (Kd.R_below (by (with_reducible repeat (first | apply Kd.R_alloc | apply Kd.R_drewN | apply Kd.R_drew)); exact HO143.out) hb); have n1_ := Aside0.mk (below_step (by repeat (first | (with_reducible first | exact HB.out | apply below_alloc | apply pw_below_drewN | apply below_drew1) | exact HB.out)) hb); clear HO143; clear HB; have HO143 := n0_; have HB := n1_; clear n0_ n1_; (try clear hb); (try clear hb2); (try clear hk); (try clear hi)) | ((with_reducible refine gate_callee (f := 39) rfl ?_); refine goesL_ (some 39) rfl rfl Tryz.func39 (by kernel_rfl) rfl #[.string (strOfNums y141)] rfl (by (try simp only [List.map_toArray, List.map_cons, List.map_nil]); first | done | rfl | (simp only [List.length_drop, List.length_take]; rfl)) ?_; (with_reducible refine (audit_Schemes.calls k (strOfNums y141) t148 t149 _ (tabs_below HT.out (by repeat (first | (with_reducible first | exact HB.out | apply below_alloc | apply pw_below_drewN | apply below_drew1) | exact HB.out))) A10.out).mono ?_); rintro e w18 ⟨v150, rfl, ho0, hb⟩; refine ⟨_, rfl, ?_⟩; have n0_ := Aside0.mk (Kd.R_below (by (with_reducible repeat (first | apply Kd.R_alloc | apply Kd.R_drewN | apply Kd.R_drew)); exact HO143.out) hb); have n1_ := Aside0.mk (Kd.R_lower ho0 (below_size (by repeat (first | (with_reducible first | exact HB.out | apply below_alloc | apply pw_below_drewN | apply below_drew1) | exact HB.out)))); have n2_ := Aside0.mk (below_step (by repeat (first | (with_reducible first | exact HB.out | apply below_alloc | apply pw_below_drewN | apply below_drew1) | exact HB.out)) hb); clear HO143; clear HB; have HO143 := n0_; have HO151 := n1_; have HB := n2_; clear n0_ n1_ n2_; (try clear hb); (try clear hb2); (try clear hk); (try clear hi); (try clear ho0)))
    (try simp only [Act.put, zA, zZ, zS])
    go_cut [14] (fun v14 wc => ∃ (kq : Nat) (x14_10 : ByteArray), v14 = .string x14_10 ∧ Aside0 (stolelaw24_AuditLong.j0 kq (decide ((ji5) ≤ 65536)) t144 t145 t146 t147 t148 t149 x14_10 = some r) ∧ Aside0 (kq ≤ k) ∧ Aside0 (Kd.R Kd.string 9 wc w.heap.size (fun _ => True) v150 t148) ∧ Aside0 (Below w.heap.size w wc))
    case first =>
     have H := HC11.out
     clear HC11
     by_cases c19 : (a1.size : Int) > 100
     ·rw [if_pos c19] at H
      have c19b0 : decide (100 < (a1.size : Int)) = true := decide_eq_true c19
      have c19b1 : decide (100 < a1.size) = true := decide_eq_true (by omega)
      clear c19
      (first | rw [c19b0] | (simp only [i64_w, i32_w]; rw [c19b0]) | skip)
      by_cases c20 : 0 ≤ 100
      ·rw [if_pos c20] at H
       have c20b0 := eq_true c20
       have c20b1 : decide (0 ≤ 100) = true := decide_eq_true c20
       clear c20
       by_cases c21 : 100 ≤ (a1.size : Int)
       ·rw [if_pos c21] at H
        have c21b0 := eq_true c21
        have c21b1 : decide (100 ≤ (a1.size : Int)) = true := decide_eq_true c21
        clear c21
        have H' := Aside0.mk H
        clear H
        go_wp2
        go_meet
        case rel => exact ⟨_, (a1.extract 0 100), (by first | rfl | (simp; done) | (simp [*]; done)), H', ⟨by first | omega | exact Nat.le_refl _⟩, ⟨by (with_reducible repeat (first | apply Kd.R_alloc | apply Kd.R_drewN | apply Kd.R_drew)); exact HO151.out⟩, ⟨by repeat (first | (with_reducible first | exact HB.out | apply below_alloc | apply pw_below_drewN | apply below_drew1) | exact HB.out)⟩⟩
       ·rw [if_neg c21] at H
        exact absurd H (by simp)
      ·rw [if_neg c20] at H
       exact absurd H (by simp)
     ·rw [if_neg c19] at H
      have c19b0 : decide (100 < (a1.size : Int)) = false := decide_eq_false c19
      have c19b1 : decide (100 < a1.size) = false := decide_eq_false (by omega)
      clear c19
      (first | rw [c19b0] | (simp only [i64_w, i32_w]; rw [c19b0]) | skip)
      have H' := Aside0.mk H
      clear H
      go_wp2
      go_meet
      case rel => exact ⟨_, (a1), (by first | rfl | (simp; done) | (simp [*]; done)), H', ⟨by first | omega | exact Nat.le_refl _⟩, ⟨by (with_reducible repeat (first | apply Kd.R_alloc | apply Kd.R_drewN | apply Kd.R_drew)); exact HO151.out⟩, ⟨by repeat (first | (with_reducible first | exact HB.out | apply below_alloc | apply pw_below_drewN | apply below_drew1) | exact HB.out)⟩⟩
    case rest =>
     clear HC11
     try clear c1
     try clear hcv1
     try clear c2
     try clear p2
     try clear c3
     try clear c4
     try clear c6
     try clear c6b0
     try clear c6b1
     try clear p6
     try clear c7
     try clear c7b0
     try clear c7b1
     try clear c13
     try clear hcv15
     try clear c19
     try clear c19b0
     try clear c19b1
     try clear c20
     try clear c20b0
     try clear c20b1
     try clear c21
     try clear c21b0
     try clear c21b1
     obtain ⟨kq, x14_10, rfl, HA, HJ10, HO_12, HB⟩ := hcut
     cases kq with
     | zero => exact absurd HA.out (by simp [stolelaw24_AuditLong.j0])
     | succ kj10 =>
      have H := HA.out
      clear HA
      simp only [stolelaw24_AuditLong.j0] at H
      replace H := Option.bind_eq_some_iff.mp H
      obtain ⟨⟨t152, t153⟩, A220, H⟩ := H
      replace H : (if (decide ((ji5) ≤ 65536)) = true then ((stolelaw0_Num.f t145).bind fun t154 => (if t154 = 0 then (if t144 = true then ((stolelaw0_Num.f t147).bind fun t155 => (if t155 = 0 then (if t146 = true then ((stolelaw0_Num.f t149).bind fun t156 => (if t156 = 0 then (if (t148.length : Int) = 0 then ((stolelaw0_Num.f t153).bind fun t157 => (some (t157 == 0))) else (some false)) else (some false))) else (some false)) else (some false))) else (some false)) else (some false))) else ((stolelaw0_Num.f t145).bind fun t158 => (if t158 = 500 then (if t144 = true then (some false) else ((stolelaw0_Num.f t147).bind fun t159 => (if t159 = 500 then (if t146 = true then (some false) else ((stolelaw0_Num.f t149).bind fun t160 => (if t160 = 500 then (if (t148.length : Int) = 0 then ((stolelaw0_Num.f t153).bind fun t161 => (some (t161 == 0))) else (some false)) else (some false)))) else (some false)))) else (some false)))) = some r := H
      have A22 := Aside0.mk A220
      clear A220
      by_cases c23 : (decide ((ji5) ≤ 65536)) = true
      ·rw [if_pos c23] at H
       have c23b0 : (decide ((ji5) ≤ 65536)) = true := c23
       clear c23
       replace H := Option.bind_eq_some_iff.mp H
       obtain ⟨t154, A240, H⟩ := H
       replace H : (if t154 = 0 then (if t144 = true then ((stolelaw0_Num.f t147).bind fun t155 => (if t155 = 0 then (if t146 = true then ((stolelaw0_Num.f t149).bind fun t156 => (if t156 = 0 then (if (t148.length : Int) = 0 then ((stolelaw0_Num.f t153).bind fun t157 => (some (t157 == 0))) else (some false)) else (some false))) else (some false)) else (some false))) else (some false)) else (some false)) = some r := H
       have A24 := Aside0.mk A240
       clear A240
       by_cases c25 : t154 = 0
       ·rw [if_pos c25] at H
        have c25b0 : (t154 == 0) = true := beq_iff_eq.mpr c25
        have c25b1 : (t154 != 0) = false := bne_eq_false_iff_eq.mpr c25
        clear c25
        by_cases c26 : t144 = true
        ·subst c26
         have H1 : ((stolelaw0_Num.f t147).bind fun t155 => (if t155 = 0 then (if t146 = true then ((stolelaw0_Num.f t149).bind fun t156 => (if t156 = 0 then (if (t148.length : Int) = 0 then ((stolelaw0_Num.f t153).bind fun t157 => (some (t157 == 0))) else (some false)) else (some false))) else (some false)) else (some false))) = some r := by rw [if_pos rfl] at H; exact H
         clear H
         have H := H1
         clear H1
         replace H := Option.bind_eq_some_iff.mp H
         obtain ⟨t155, A270, H⟩ := H
         replace H : (if t155 = 0 then (if t146 = true then ((stolelaw0_Num.f t149).bind fun t156 => (if t156 = 0 then (if (t148.length : Int) = 0 then ((stolelaw0_Num.f t153).bind fun t157 => (some (t157 == 0))) else (some false)) else (some false))) else (some false)) else (some false)) = some r := H
         have A27 := Aside0.mk A270
         clear A270
         by_cases c28 : t155 = 0
         ·rw [if_pos c28] at H
          have c28b0 : (t155 == 0) = true := beq_iff_eq.mpr c28
          have c28b1 : (t155 != 0) = false := bne_eq_false_iff_eq.mpr c28
          clear c28
          by_cases c29 : t146 = true
          ·subst c29
           have H1 : ((stolelaw0_Num.f t149).bind fun t156 => (if t156 = 0 then (if (t148.length : Int) = 0 then ((stolelaw0_Num.f t153).bind fun t157 => (some (t157 == 0))) else (some false)) else (some false))) = some r := by rw [if_pos rfl] at H; exact H
           clear H
           have H := H1
           clear H1
           replace H := Option.bind_eq_some_iff.mp H
           obtain ⟨t156, A300, H⟩ := H
           replace H : (if t156 = 0 then (if (t148.length : Int) = 0 then ((stolelaw0_Num.f t153).bind fun t157 => (some (t157 == 0))) else (some false)) else (some false)) = some r := H
           have A30 := Aside0.mk A300
           clear A300
           by_cases c31 : t156 = 0
           ·rw [if_pos c31] at H
            have c31b0 : (t156 == 0) = true := beq_iff_eq.mpr c31
            have c31b1 : (t156 != 0) = false := bne_eq_false_iff_eq.mpr c31
            clear c31
            by_cases c32 : (t148.length : Int) = 0
            ·rw [if_pos c32] at H
             have c32b0 : ((t148.length : Int) == 0) = true := beq_iff_eq.mpr c32
             have c32b1 : ((t148.length : Int) != 0) = false := bne_eq_false_iff_eq.mpr c32
             clear c32
             replace H := Option.bind_eq_some_iff.mp H
             obtain ⟨t157, A330, H⟩ := H
             replace H : (some (t157 == 0)) = some r := H
             have A33 := Aside0.mk A330
             clear A330
             obtain rfl := Option.some.inj H
             go_wp2_with (first | ((with_reducible refine gate_callee (f := 37) rfl ?_); refine goesL_ (some 51) rfl rfl Tryz.func37 (by kernel_rfl) rfl #[.string x14_10, .string x14_10] rfl (by (try simp only [List.map_toArray, List.map_cons, List.map_nil]); first | done | rfl | (simp only [List.length_drop, List.length_take]; rfl)) ?_; (with_reducible refine (audit_Alike.calls x14_10 x14_10 t152 t153 _ (tabs_below HT.out (by repeat (first | (with_reducible first | exact HB.out | apply below_alloc | apply pw_below_drewN | apply below_drew1) | exact HB.out))) A22.out).mono ?_); rintro e w34 ⟨rfl, hb⟩; refine ⟨_, rfl, ?_⟩; have n0_ := Aside0.mk (Kd.R_below (by (with_reducible repeat (first | apply Kd.R_alloc | apply Kd.R_drewN | apply Kd.R_drew)); exact HO_12.out) hb); have n1_ := Aside0.mk (below_step (by repeat (first | (with_reducible first | exact HB.out | apply below_alloc | apply pw_below_drewN | apply below_drew1) | exact HB.out)) hb); clear HO_12; clear HB; have HO_12 := n0_; have HB := n1_; clear n0_ n1_; (try clear hb); (try clear hb2); (try clear hk); (try clear hi)) | ((with_reducible refine gate_callee (f := 21) rfl ?_); refine goesL_ (some 56) rfl rfl Tryz.func21 (by kernel_rfl) rfl #[.int .i64 t145] rfl (by (try simp only [List.map_toArray, List.map_cons, List.map_nil]); first | done | rfl | (simp only [List.length_drop, List.length_take]; rfl)) ?_; (with_reducible refine (stolelaw0_Num.calls t145 t154 _ A24.out).mono ?_); rintro e w' ⟨rfl, ⟨nd, rfl⟩⟩; refine ⟨_, rfl, ?_⟩) | (go_at_call 21; (with_reducible refine (stolelaw0_Num.calls t147 t155 _ A27.out).mono ?_); rintro e w' ⟨rfl, ⟨nd, rfl⟩⟩) | (go_at_call 21; (with_reducible refine (stolelaw0_Num.calls t149 t156 _ A30.out).mono ?_); rintro e w' ⟨rfl, ⟨nd, rfl⟩⟩; obtain ⟨Ao35, co35, eo35⟩ := Kd.R_slice HO_12.out; subst eo35) | (go_at_call 21; (with_reducible refine (stolelaw0_Num.calls t153 t157 _ A33.out).mono ?_); rintro e w' ⟨rfl, ⟨nd, rfl⟩⟩))
             go_ret
             exact ⟨by first | rfl | (simp [errW_none, errW_some] <;> rfl) | (simp only [← hji5]; first | rfl | (simp [errW_none, errW_some] <;> rfl)) | (simp [*, errW_none, errW_some] <;> rfl), by repeat (first | (with_reducible first | exact HB.out | apply below_alloc | apply pw_below_drewN | apply below_drew1) | exact HB.out)⟩
            ·rw [if_neg c32] at H
             have c32b0 : ((t148.length : Int) == 0) = false := beq_eq_false_iff_ne.mpr c32
             have c32b1 : ((t148.length : Int) != 0) = true := bne_iff_ne.mpr c32
             have c32b2 : ¬ (t148 = []) := fun h_ => c32 (by rw [h_]; rfl)
             obtain rfl := Option.some.inj H
             exact absurd hr (by simp)
           ·rw [if_neg c31] at H
            have c31b0 : (t156 == 0) = false := beq_eq_false_iff_ne.mpr c31
            have c31b1 : (t156 != 0) = true := bne_iff_ne.mpr c31
            obtain rfl := Option.some.inj H
            exact absurd hr (by simp)
          ·replace c29 := Bool.eq_false_iff.mpr c29
           subst c29
           have H1 : (some false) = some r := by rw [if_neg (show ¬ (false = true) by decide)] at H; exact H
           clear H
           have H := H1
           clear H1
           obtain rfl := Option.some.inj H
           exact absurd hr (by simp)
         ·rw [if_neg c28] at H
          have c28b0 : (t155 == 0) = false := beq_eq_false_iff_ne.mpr c28
          have c28b1 : (t155 != 0) = true := bne_iff_ne.mpr c28
          obtain rfl := Option.some.inj H
          exact absurd hr (by simp)
        ·replace c26 := Bool.eq_false_iff.mpr c26
         subst c26
         have H1 : (some false) = some r := by rw [if_neg (show ¬ (false = true) by decide)] at H; exact H
         clear H
         have H := H1
         clear H1
         obtain rfl := Option.some.inj H
         exact absurd hr (by simp)
       ·rw [if_neg c25] at H
        have c25b0 : (t154 == 0) = false := beq_eq_false_iff_ne.mpr c25
        have c25b1 : (t154 != 0) = true := bne_iff_ne.mpr c25
        obtain rfl := Option.some.inj H
        exact absurd hr (by simp)
      ·rw [if_neg c23] at H
       have c23b0 : (decide ((ji5) ≤ 65536)) = false := by simpa using c23
       clear c23
       replace H := Option.bind_eq_some_iff.mp H
       obtain ⟨t158, A430, H⟩ := H
       replace H : (if t158 = 500 then (if t144 = true then (some false) else ((stolelaw0_Num.f t147).bind fun t159 => (if t159 = 500 then (if t146 = true then (some false) else ((stolelaw0_Num.f t149).bind fun t160 => (if t160 = 500 then (if (t148.length : Int) = 0 then ((stolelaw0_Num.f t153).bind fun t161 => (some (t161 == 0))) else (some false)) else (some false)))) else (some false)))) else (some false)) = some r := H
       have A43 := Aside0.mk A430
       clear A430
       by_cases c44 : t158 = 500
       ·rw [if_pos c44] at H
        have c44b0 : (t158 == 500) = true := beq_iff_eq.mpr c44
        have c44b1 : (t158 != 500) = false := bne_eq_false_iff_eq.mpr c44
        clear c44
        by_cases c45 : t144 = true
        ·subst c45
         have H1 : (some false) = some r := by rw [if_pos rfl] at H; exact H
         clear H
         have H := H1
         clear H1
         obtain rfl := Option.some.inj H
         exact absurd hr (by simp)
        ·replace c45 := Bool.eq_false_iff.mpr c45
         subst c45
         have H1 : ((stolelaw0_Num.f t147).bind fun t159 => (if t159 = 500 then (if t146 = true then (some false) else ((stolelaw0_Num.f t149).bind fun t160 => (if t160 = 500 then (if (t148.length : Int) = 0 then ((stolelaw0_Num.f t153).bind fun t161 => (some (t161 == 0))) else (some false)) else (some false)))) else (some false))) = some r := by rw [if_neg (show ¬ (false = true) by decide)] at H; exact H
         clear H
         have H := H1
         clear H1
         replace H := Option.bind_eq_some_iff.mp H
         obtain ⟨t159, A470, H⟩ := H
         replace H : (if t159 = 500 then (if t146 = true then (some false) else ((stolelaw0_Num.f t149).bind fun t160 => (if t160 = 500 then (if (t148.length : Int) = 0 then ((stolelaw0_Num.f t153).bind fun t161 => (some (t161 == 0))) else (some false)) else (some false)))) else (some false)) = some r := H
         have A47 := Aside0.mk A470
         clear A470
         by_cases c48 : t159 = 500
         ·rw [if_pos c48] at H
          have c48b0 : (t159 == 500) = true := beq_iff_eq.mpr c48
          have c48b1 : (t159 != 500) = false := bne_eq_false_iff_eq.mpr c48
          clear c48
          by_cases c49 : t146 = true
          ·subst c49
           have H1 : (some false) = some r := by rw [if_pos rfl] at H; exact H
           clear H
           have H := H1
           clear H1
           obtain rfl := Option.some.inj H
           exact absurd hr (by simp)
          ·replace c49 := Bool.eq_false_iff.mpr c49
           subst c49
           have H1 : ((stolelaw0_Num.f t149).bind fun t160 => (if t160 = 500 then (if (t148.length : Int) = 0 then ((stolelaw0_Num.f t153).bind fun t161 => (some (t161 == 0))) else (some false)) else (some false))) = some r := by rw [if_neg (show ¬ (false = true) by decide)] at H; exact H
           clear H
           have H := H1
           clear H1
           replace H := Option.bind_eq_some_iff.mp H
           obtain ⟨t160, A510, H⟩ := H
           replace H : (if t160 = 500 then (if (t148.length : Int) = 0 then ((stolelaw0_Num.f t153).bind fun t161 => (some (t161 == 0))) else (some false)) else (some false)) = some r := H
           have A51 := Aside0.mk A510
           clear A510
           by_cases c52 : t160 = 500
           ·rw [if_pos c52] at H
            have c52b0 : (t160 == 500) = true := beq_iff_eq.mpr c52
            have c52b1 : (t160 != 500) = false := bne_eq_false_iff_eq.mpr c52
            clear c52
            by_cases c53 : (t148.length : Int) = 0
            ·rw [if_pos c53] at H
             have c53b0 : ((t148.length : Int) == 0) = true := beq_iff_eq.mpr c53
             have c53b1 : ((t148.length : Int) != 0) = false := bne_eq_false_iff_eq.mpr c53
             clear c53
             replace H := Option.bind_eq_some_iff.mp H
             obtain ⟨t161, A540, H⟩ := H
             replace H : (some (t161 == 0)) = some r := H
             have A54 := Aside0.mk A540
             clear A540
             obtain rfl := Option.some.inj H
             go_wp2_with (first | ((with_reducible refine gate_callee (f := 37) rfl ?_); refine goesL_ (some 51) rfl rfl Tryz.func37 (by kernel_rfl) rfl #[.string x14_10, .string x14_10] rfl (by (try simp only [List.map_toArray, List.map_cons, List.map_nil]); first | done | rfl | (simp only [List.length_drop, List.length_take]; rfl)) ?_; (with_reducible refine (audit_Alike.calls x14_10 x14_10 t152 t153 _ (tabs_below HT.out (by repeat (first | (with_reducible first | exact HB.out | apply below_alloc | apply pw_below_drewN | apply below_drew1) | exact HB.out))) A22.out).mono ?_); rintro e w55 ⟨rfl, hb⟩; refine ⟨_, rfl, ?_⟩; have n0_ := Aside0.mk (Kd.R_below (by (with_reducible repeat (first | apply Kd.R_alloc | apply Kd.R_drewN | apply Kd.R_drew)); exact HO_12.out) hb); have n1_ := Aside0.mk (below_step (by repeat (first | (with_reducible first | exact HB.out | apply below_alloc | apply pw_below_drewN | apply below_drew1) | exact HB.out)) hb); clear HO_12; clear HB; have HO_12 := n0_; have HB := n1_; clear n0_ n1_; (try clear hb); (try clear hb2); (try clear hk); (try clear hi)) | ((with_reducible refine gate_callee (f := 21) rfl ?_); refine goesL_ (some 85) rfl rfl Tryz.func21 (by kernel_rfl) rfl #[.int .i64 t145] rfl (by (try simp only [List.map_toArray, List.map_cons, List.map_nil]); first | done | rfl | (simp only [List.length_drop, List.length_take]; rfl)) ?_; (with_reducible refine (stolelaw0_Num.calls t145 t158 _ A43.out).mono ?_); rintro e w' ⟨rfl, ⟨nd, rfl⟩⟩; refine ⟨_, rfl, ?_⟩) | (go_at_call 21; (with_reducible refine (stolelaw0_Num.calls t147 t159 _ A47.out).mono ?_); rintro e w' ⟨rfl, ⟨nd, rfl⟩⟩) | (go_at_call 21; (with_reducible refine (stolelaw0_Num.calls t149 t160 _ A51.out).mono ?_); rintro e w' ⟨rfl, ⟨nd, rfl⟩⟩; obtain ⟨Ao56, co56, eo56⟩ := Kd.R_slice HO_12.out; subst eo56) | (go_at_call 21; (with_reducible refine (stolelaw0_Num.calls t153 t161 _ A54.out).mono ?_); rintro e w' ⟨rfl, ⟨nd, rfl⟩⟩))
             go_ret
             exact ⟨by first | rfl | (simp [errW_none, errW_some] <;> rfl) | (simp only [← hji5]; first | rfl | (simp [errW_none, errW_some] <;> rfl)) | (simp [*, errW_none, errW_some] <;> rfl), by repeat (first | (with_reducible first | exact HB.out | apply below_alloc | apply pw_below_drewN | apply below_drew1) | exact HB.out)⟩
            ·rw [if_neg c53] at H
             have c53b0 : ((t148.length : Int) == 0) = false := beq_eq_false_iff_ne.mpr c53
             have c53b1 : ((t148.length : Int) != 0) = true := bne_iff_ne.mpr c53
             have c53b2 : ¬ (t148 = []) := fun h_ => c53 (by rw [h_]; rfl)
             obtain rfl := Option.some.inj H
             exact absurd hr (by simp)
           ·rw [if_neg c52] at H
            have c52b0 : (t160 == 500) = false := beq_eq_false_iff_ne.mpr c52
            have c52b1 : (t160 != 500) = true := bne_iff_ne.mpr c52
            obtain rfl := Option.some.inj H
            exact absurd hr (by simp)
         ·rw [if_neg c48] at H
          have c48b0 : (t159 == 500) = false := beq_eq_false_iff_ne.mpr c48
          have c48b1 : (t159 != 500) = true := bne_iff_ne.mpr c48
          obtain rfl := Option.some.inj H
          exact absurd hr (by simp)
       ·rw [if_neg c44] at H
        have c44b0 : (t158 == 500) = false := beq_eq_false_iff_ne.mpr c44
        have c44b1 : (t158 != 500) = true := bne_iff_ne.mpr c44
        obtain rfl := Option.some.inj H
        exact absurd hr (by simp)
   ·rw [if_neg c7] at H
    exact absurd H (by simp)
  ·rw [if_neg c6] at H
   exact absurd H (by simp)
 ·replace c4 := Bool.eq_false_iff.mpr c4
  subst c4
  have H1 : (some false) = some r := by rw [if_neg (show ¬ (false = true) by decide)] at H; exact H
  clear H
  have H := H1
  clear H1
  obtain rfl := Option.some.inj H
  exact absurd hr (by simp)
def stolelaw24_AuditLong.Pure : Prop := ∀ (a0 : Int) (a1 : ByteArray), (Lit.int .i64 a0).wf = true → a1.size ≤ 140737488351232 → ∃ k, stolelaw24_AuditLong.f k a0 a1 = some true
theorem stolelaw24_AuditLong.walk (P : stolelaw24_AuditLong.Pure) (a0 : Int) (a1 : ByteArray) (w : World) (hT : Tabs w) (w0 : (Lit.int .i64 a0).wf = true) (w1 : a1.size ≤ 140737488351232) :
  Calls Tryz.prog 13 #[.int .i64 a0, .string a1] w fun e w' => e = .returned (.bool true) ∧ Below w.heap.size w w' := by
 obtain ⟨k, h⟩ := P a0 a1 w0 w1
 refine (stolelaw24_AuditLong.calls k a0 a1 true w hT h rfl).mono ?_
 rintro e w' ⟨rfl, hd⟩
 exact ⟨rfl, hd⟩
end Go.Proofs.YtfmcdlbbbmeolaaGreatDoor.XA
end
section
namespace Go.Proofs.YtfmcdlbbbmeolaaGreatDoor.XP
end Go.Proofs.YtfmcdlbbbmeolaaGreatDoor.XP
end
section
namespace Go.Proofs.YtfmcdlbbbmeolaaGreatDoor.P8
open Go.RowKit Go.Proofs.YtfmcdlbbbmeolaaGreatDoor.XK Go.Proofs.YtfmcdlbbbmeolaaGreatDoor.XP Go.Proofs.YtfmcdlbbbmeolaaGreatDoor.Tk Go.Proofs.YtfmcdlbbbmeolaaGreatDoor.ExtP Go.Proofs.YtfmcdlbbbmeolaaGreatDoor.Base Go.Proofs.YtfmcdlbbbmeolaaGreatDoorW.PrintWords Go.Proofs.YtfmcdlbbbmeolaaGreatDoorW.PrintLast Go.Proofs.YtfmcdlbbbmeolaaGreatDoorW.PrintMore
open Go.Proofs.YtfmcdlbbbmeolaaGreatDoor.Tr (parseF skR skS it4 tkS mayNs parse_ok parse_err skel_parse skel_f NodB toks noText tkS_noText)
set_option linter.unusedVariables false
set_option linter.unusedSimpArgs false
set_option maxRecDepth 100000
theorem parse_f (b : ByteArray) : page_Parse.f b = some (parseF b.data.toList) := by
  unfold page_Parse.f tok_Tokens.f parseF
  rw [tokens_eq]
  simp only [Option.bind_some]
  have hb := (toks_bnd b.data.toList).1
  split
  · unfold tree_Build.f
    rw [if_pos (by omega)]; rfl
  · rfl
theorem parse_long (n : Nat) (h : 65536 < n) (x : Int) : page_Parse.f (strOfNums (List.replicate n x)) = some ([], 500) := by
  rw [parse_f]
  unfold parseF tokensM
  rw [strOfNums_data, List.length_map, List.length_replicate, if_pos h]; rfl
theorem skel_nil : page_Skeleton.f [] = some (⟨#[]⟩, 800) := by
  rw [skel_f [] (by decide) (fun x hx => (by cases hx))]; rfl
def pg0 : List UInt8 := [60, 112, 32, 97, 61, 49, 62, 120, 60, 98, 62, 121, 60, 47, 98, 62, 60, 47, 112, 62, 60, 33, 113, 62]
def ns0 : List S69 := [⟨0, ⟨#[]⟩, ⟨#[]⟩, [], -1⟩, ⟨1, ⟨#[112]⟩, ⟨#[]⟩, [⟨⟨#[97]⟩, ⟨#[49]⟩⟩], 0⟩, ⟨2, ⟨#[]⟩, ⟨#[120]⟩, [], 1⟩, ⟨1, ⟨#[98]⟩, ⟨#[]⟩, [], 1⟩, ⟨2, ⟨#[]⟩, ⟨#[121]⟩, [], 3⟩, ⟨3, ⟨#[]⟩, ⟨#[113]⟩, [], 0⟩]
theorem pg0_eq : parseF pg0 = (ns0, 0) := by kernel_rfl
theorem sk0_eq : skR ns0 = ([48, 32, 101, 32, 112, 32, 97, 10, 49, 32, 101, 32, 98, 10, 48, 32, 99, 32, 113, 10], 0) := by kernel_rfl
set_option maxHeartbeats 4000000 in
theorem awake_ok : stolelaw8_awake.f 60 = some true := by
  have h1 : page_Parse.f ⟨pg0.toArray⟩ = some (ns0, 0) := by rw [parse_f]; show some (parseF pg0) = _; rw [pg0_eq]
  have h2 : page_Skeleton.f ns0 = some (⟨(skR ns0).1.toArray⟩, (skR ns0).2) := by have := skel_parse pg0; rwa [pg0_eq] at this
  rw [sk0_eq] at h2
  unfold pg0 at h1
  unfold stolelaw8_awake.f
  rw [h1, parse_long 65537 (by decide), skel_nil]
  simp only [Option.bind_some]
  rw [h2]
  decide +kernel
theorem awake_ev : Ev (fun k => stolelaw8_awake.f k) true := Ev.of (fun k => stolelaw8_awake.mono k) awake_ok
end Go.Proofs.YtfmcdlbbbmeolaaGreatDoor.P8
end
section
namespace Go.Proofs.YtfmcdlbbbmeolaaGreatDoor.P24
open Go.RowKit Go.Proofs.YtfmcdlbbbmeolaaGreatDoor.XK Go.Proofs.YtfmcdlbbbmeolaaGreatDoor.XP Go.Proofs.YtfmcdlbbbmeolaaGreatDoor.XQ Go.Proofs.YtfmcdlbbbmeolaaGreatDoor.XA Go.Proofs.YtfmcdlbbbmeolaaGreatDoor.Tk Go.Proofs.YtfmcdlbbbmeolaaGreatDoor.ExtP Go.Proofs.YtfmcdlbbbmeolaaGreatDoor.Base Go.Proofs.YtfmcdlbbbmeolaaGreatDoorW.PrintWords Go.Proofs.YtfmcdlbbbmeolaaGreatDoorW.PrintLast Go.Proofs.YtfmcdlbbbmeolaaGreatDoorW.PrintMore
open Go.Proofs.YtfmcdlbbbmeolaaGreatDoor.Tr (parseF skR skel_parse)
open Go.Proofs.YtfmcdlbbbmeolaaGreatDoor.P8 (parse_f parse_long)
set_option linter.unusedVariables false
set_option linter.unusedSimpArgs false
set_option maxRecDepth 100000
def alikeF (a b : List UInt8) : Bool × Int :=
  if (parseF a).2 = 0 then (if (parseF b).2 = 0 then ((skR (parseF a).1).1 == (skR (parseF b).1).1, 0) else (false, (parseF b).2)) else (false, (parseF a).2)
theorem alike_f (a b : ByteArray) : audit_Alike.f a b = some (alikeF a.data.toList b.data.toList) := by
  unfold audit_Alike.f alikeF
  rw [parse_f a, Option.bind_some]
  by_cases h1 : (parseF a.data.toList).2 = 0
  · rw [if_pos h1, if_pos h1, parse_f b, Option.bind_some]
    by_cases h2 : (parseF b.data.toList).2 = 0
    · rw [if_pos h2, if_pos h2, skel_parse, Option.bind_some, skel_parse, Option.bind_some]
      simp only [list_eq]
    · rw [if_neg h2, if_neg h2]
  · rw [if_neg h1, if_neg h1]
theorem schemes_f (k : Nat) (a : ByteArray) : audit_Schemes.f k a = if (parseF a.data.toList).2 = 0 then ((sOut k [] (parseF a.data.toList).1).bind fun o => some (o, 0)) else some ([], (parseF a.data.toList).2) := by
  unfold audit_Schemes.f
  rw [parse_f a, Option.bind_some]
theorem schemes_long (k n : Nat) (h : 65536 < n) (x : Int) : audit_Schemes.f k (strOfNums (List.replicate n x)) = some ([], 500) := by
  unfold audit_Schemes.f
  rw [parse_long n h x, Option.bind_some]; rfl
def pgA : List UInt8 := [60, 112, 62, 120, 60, 47, 112, 62]
def pgB : List UInt8 := [60, 112, 62, 121, 38, 108, 116, 59, 60, 47, 112, 62]
def pgC : List UInt8 := [60, 112, 62]
def pgD : List UInt8 := [60, 112, 32, 97, 62]
def pgE : List UInt8 := [60, 97, 32, 104, 114, 101, 102, 61, 39, 72, 84, 84, 80, 58, 120, 39, 62, 60, 105, 109, 103, 32, 115, 114, 99, 61, 106, 97, 118, 97, 115, 99, 114, 105, 112, 116, 58, 49, 32, 116, 105, 116, 108, 101, 61, 39, 97, 58, 98, 39, 62]
theorem ab_eq : alikeF pgA pgB = (true, 0) := by kernel_rfl
theorem cd_eq : alikeF pgC pgD = (false, 0) := by kernel_rfl
theorem e_eq : (if (parseF pgE).2 = 0 then ((sOut 60 [] (parseF pgE).1).bind fun o => some (o, (0 : Int))) else some ([], (parseF pgE).2)) = some ([⟨#[104, 116, 116, 112]⟩, ⟨#[106, 97, 118, 97, 115, 99, 114, 105, 112, 116]⟩], 0) := by kernel_rfl
set_option maxHeartbeats 4000000 in
theorem awake_ok : stolelaw24_awake.f 60 = some true := by
  have h1 : audit_Alike.f ⟨pgA.toArray⟩ ⟨pgB.toArray⟩ = some (true, 0) := by rw [alike_f]; show some (alikeF pgA pgB) = _; rw [ab_eq]
  have h2 : audit_Alike.f ⟨pgC.toArray⟩ ⟨pgD.toArray⟩ = some (false, 0) := by rw [alike_f]; show some (alikeF pgC pgD) = _; rw [cd_eq]
  have h3 : audit_Schemes.f 60 ⟨pgE.toArray⟩ = some ([⟨#[104, 116, 116, 112]⟩, ⟨#[106, 97, 118, 97, 115, 99, 114, 105, 112, 116]⟩], 0) := by rw [schemes_f]; exact e_eq
  unfold pgA pgB at h1
  unfold pgC pgD at h2
  unfold pgE at h3
  unfold stolelaw24_awake.f
  rw [h1, h2, h3, schemes_long 60 65537 (by decide)]
  decide +kernel
theorem awake_ev : Ev (fun k => stolelaw24_awake.f k) true := Ev.of (fun k => stolelaw24_awake.mono k) awake_ok
theorem ali_ok (a b : List UInt8) (h1 : (parseF a).2 = 0) (h2 : (parseF b).2 = 0) : alikeF a b = ((skR (parseF a).1).1 == (skR (parseF b).1).1, 0) := by
  unfold alikeF; rw [if_pos h1, if_pos h2]
end Go.Proofs.YtfmcdlbbbmeolaaGreatDoor.P24
end
section
namespace Go.Proofs.YtfmcdlbbbmeolaaGreatDoor.P24
open Go.RowKit Go.Proofs.YtfmcdlbbbmeolaaGreatDoor.XK Go.Proofs.YtfmcdlbbbmeolaaGreatDoor.XP Go.Proofs.YtfmcdlbbbmeolaaGreatDoor.XQ Go.Proofs.YtfmcdlbbbmeolaaGreatDoor.XA Go.Proofs.YtfmcdlbbbmeolaaGreatDoor.Tk Go.Proofs.YtfmcdlbbbmeolaaGreatDoor.ExtP Go.Proofs.YtfmcdlbbbmeolaaGreatDoor.Base Go.Proofs.YtfmcdlbbbmeolaaGreatDoorW.PrintWords Go.Proofs.YtfmcdlbbbmeolaaGreatDoorW.PrintLast Go.Proofs.YtfmcdlbbbmeolaaGreatDoorW.PrintMore
open Go.Proofs.YtfmcdlbbbmeolaaGreatDoor.Tr (parseF skR skel_parse it4 tkS SkT runF parse_ok tkS_noText noText build_ok buildF root)
open Go.Proofs.YtfmcdlbbbmeolaaGreatDoor.Ln (linesL)
open Go.Proofs.YtfmcdlbbbmeolaaGreatDoor.P8 (parse_f parse_long)
set_option linter.unusedVariables false
set_option linter.unusedSimpArgs false
set_option maxRecDepth 100000
theorem txt_cnt (h : ByteArray) (b : List UInt8) : (txtL h b).length ≤ 1 := by
  cases b with
  | nil => exact Nat.zero_le _
  | cons c l => exact Nat.le_refl _
theorem step_cnt (m : Mc) (c : UInt8) : (stepM m c).out.length ≤ m.out.length + 2 := by
  have h1 := txt_cnt m.held m.buf
  unfold stepM
  simp only
  split
  · simp only; omega
  · split
    · simp only [List.length_append, List.length_cons, List.length_nil]; omega
    · split
      · simp only [List.length_append, List.length_cons, List.length_nil]; omega
      · simp only; omega
theorem run_cnt (l : List UInt8) : ∀ m : Mc, (runM m l).out.length ≤ m.out.length + 2 * l.length := by
  induction l with
  | nil => intro m; exact Nat.le_refl _
  | cons c l ih => intro m; rw [run_cons, List.length_cons]; have h1 := ih (stepM m c); have h2 := step_cnt m c; omega
theorem toks_cnt (page : List UInt8) : (tokensM page).1.length ≤ 2 * page.length + 1 := by
  unfold tokensM
  split
  · exact Nat.zero_le _
  · have h := run_cnt (linesL page) m0
    have hp := Ln.lines_len page
    show (endM (runM m0 (linesL page))).length ≤ _
    unfold endM
    rw [List.length_append]
    have h2 : ∀ b, (txtL (runM m0 (linesL page)).held b).length ≤ 1 := fun b => txt_cnt _ b
    have h3 := h2 (if restB (runM m0 (linesL page)).st = true then (runM m0 (linesL page)).buf ++ (runM m0 (linesL page)).pnd else (runM m0 (linesL page)).buf)
    have h0 : m0.out.length = 0 := rfl
    omega
theorem short_ok (page : List UInt8) (h : page.length ≤ 2000) : (parseF page).2 = 0 := by
  have h2 : (tokensM page).2 = 0 := by unfold tokensM; rw [if_neg (by omega)]
  unfold parseF
  rw [if_pos h2]
  exact build_ok _ (toks_may page) (by have := toks_cnt page; omega)
theorem self_ok (page : List UInt8) (h : page.length ≤ 2000) : (alikeF page page).2 = 0 := by
  rw [ali_ok _ _ (short_ok page h) (short_ok page h)]
theorem lines_none' : ∀ l : List UInt8, (∀ b ∈ l, b ≠ 13) → linesL l = l
  | [], _ => rfl
  | [c], h => by unfold linesL; rw [if_neg (h c (by simp))]
  | c :: d :: l, h => by
    unfold linesL
    rw [if_neg (h c (by simp)), lines_none' (d :: l) (fun b hb => h b (List.mem_cons_of_mem _ hb))]
    rw [if_neg (fun e => h c (by simp) e.1)]
theorem plain_toks (c : UInt8) (l : List UInt8) (hs : (c :: l).length ≤ 65536) (h : ∀ b ∈ c :: l, b ≠ 60 ∧ b ≠ 13) : ∃ v, tokensM (c :: l) = ([⟨0, ⟨#[]⟩, v, [], false⟩], 0) := by
  unfold tokensM
  rw [if_neg (by omega), lines_none' _ (fun b hb => (h b hb).2), run_data m0 (c :: l) rfl (fun b hb => (h b hb).1)]
  exact ⟨_, rfl⟩
theorem plain_sk (c : UInt8) (l : List UInt8) (hs : (c :: l).length ≤ 65536) (h : ∀ b ∈ c :: l, b ≠ 60 ∧ b ≠ 13) : (parseF (c :: l)).2 = 0 ∧ (skR (parseF (c :: l)).1).1 = (tkS it4 []).out ∧ ∀ n ∈ (parseF (c :: l)).1, n.f3 = [] := by
  obtain ⟨v, hv⟩ := plain_toks c l hs h
  have hm := toks_may (c :: l)
  rw [hv] at hm
  have e2 : (parseF (c :: l)).2 = 0 := by
    unfold parseF
    rw [hv, if_pos rfl]
    exact build_ok _ hm (by simp)
  refine ⟨e2, ?_, ?_⟩
  · rw [parse_ok _ e2, hv]
    exact congrArg SkT.out (tkS_noText it4 [⟨0, ⟨#[]⟩, v, [], false⟩] [] rfl)
  · unfold parseF
    rw [hv, if_pos rfl]
    unfold buildF
    rw [if_pos hm]
    have hr : runF [⟨0, ⟨#[]⟩, v, [], false⟩] [root] [0] = some (Tr.textF [root] [0] v) ∨ runF [⟨0, ⟨#[]⟩, v, [], false⟩] [root] [0] = none := by
      unfold runF
      split
      · exact .inr rfl
      · exact .inl rfl
    rcases hr with hr | hr
    · rw [hr]
      show ∀ n ∈ Tr.textF [root] [0] v, n.f3 = []
      have ht : Tr.textF [root] [0] v = if v.toList = [] then [root] else [root] ++ [⟨2, ⟨#[]⟩, v, [], Tr.lastOf [0]⟩] := by
        unfold Tr.textF
        rw [show ([root]).getLast? = some root from rfl]
        simp only
        rw [if_neg (fun e => absurd e.1 (by decide))]
      rw [ht]
      intro n hn
      split at hn
      · rw [List.mem_singleton] at hn; subst hn; rfl
      · rcases List.mem_append.1 hn with hn | hn <;> (rw [List.mem_singleton] at hn; subst hn; rfl)
    · rw [hr]; intro n hn; cases hn
theorem sOut_none (k : Nat) : ∀ (ns : List S69) (out : List ByteArray), (∀ n ∈ ns, n.f3 = []) → sOut k out ns = some out
  | [], out, _ => rfl
  | n :: ns, out, h => by
    unfold sOut
    rw [h n (by simp)]
    show (some out).bind _ = _
    rw [Option.bind_some]
    exact sOut_none k ns out (fun x hx => h x (List.mem_cons_of_mem _ hx))
theorem and_maskA (x : Int) (i : Nat) (hi : i ≤ 62) : Go.bits .and .i64 x (2 ^ i - 1) = x % 2 ^ i := by
  have hpos : 0 < 2 ^ i := Nat.two_pow_pos i
  have hlt : 2 ^ i ≤ 2 ^ 62 := Nat.pow_le_pow_right (by decide) hi
  have hc : ((2 : Int) ^ i - 1) = ((2 ^ i - 1 : Nat) : Int) := by
    rw [Int.natCast_sub hpos]; simp
  have hm : (2 ^ i - 1) % 2 ^ IntKind.i64.bits = 2 ^ i - 1 := Nat.mod_eq_of_lt (by show 2 ^ i - 1 < 2 ^ 64; omega)
  have hd : (2 : Int) ^ i ∣ 2 ^ 64 := ⟨2 ^ (64 - i), by rw [← Int.pow_add]; congr 1; omega⟩
  have hx0 : 0 ≤ x % 2 ^ 64 := Int.emod_nonneg _ (by decide)
  have e : ((BitVec.ofInt IntKind.i64.bits x).toNat : Int) = x % 2 ^ 64 := by
    rw [BitVec.toNat_ofInt, Int.toNat_of_nonneg (by exact hx0)]; rfl
  have e2 : (((BitVec.ofInt IntKind.i64.bits x).toNat % 2 ^ i : Nat) : Int) = x % 2 ^ i := by
    rw [Int.natCast_emod, e]
    have : ((2 ^ i : Nat) : Int) = (2 : Int) ^ i := by simp
    rw [this, Int.emod_emod_of_dvd _ hd]
  rw [hc]
  simp only [Go.bits, BitVec.toNat_and, BitVec.ofInt_natCast, BitVec.toNat_ofNat]
  rw [hm, Nat.and_two_pow_sub_one_eq_mod, IntKind.wrap_i64, e2]
  have h0 : 0 ≤ x % 2 ^ i := Int.emod_nonneg _ (by have : (0:Int) < 2 ^ i := by exact_mod_cast hpos
                                                   omega)
  have h1 : x % 2 ^ i < 2 ^ i := Int.emod_lt_of_pos _ (by exact_mod_cast hpos)
  have h2 : (2 : Int) ^ i ≤ 2 ^ 62 := by exact_mod_cast hlt
  omega
theorem k_of (x : Int) : ∃ n : Nat, n ≤ 7 ∧ wrap64 (65532 + Go.bits .and .i64 x 7) = ((65532 + n : Nat) : Int) := by
  have h := and_maskA x 3 (by decide)
  have h2 : Go.bits .and .i64 x 7 = x % 8 := by simpa using h
  refine ⟨(x % 8).toNat, by omega, ?_⟩
  rw [h2]; unfold wrap64; omega
theorem zeros_data (n : Nat) : (strOfNums (List.replicate n 0)).data.toList = List.replicate n 0 := by
  rw [strOfNums_data]; simp
theorem zeros_sk (n : Nat) (h0 : 0 < n) (h : n ≤ 65536) : (parseF (List.replicate n 0)).2 = 0 ∧ (skR (parseF (List.replicate n 0)).1).1 = (tkS it4 []).out ∧ ∀ x ∈ (parseF (List.replicate n 0)).1, x.f3 = [] := by
  obtain ⟨m, rfl⟩ : ∃ m, n = m + 1 := ⟨n - 1, by omega⟩
  rw [List.replicate_succ]
  refine plain_sk 0 _ (by simp; omega) (fun b hb => ?_)
  have : b = 0 := by
    rcases List.mem_cons.1 hb with e | e
    · exact e
    · exact (List.mem_replicate.1 e).2
  subst this; decide
theorem fin_ev (t : ByteArray) (h : t.size ≤ 100) : Ev (fun _ => (stolelaw0_Num.f (alikeF t.data.toList t.data.toList).2).bind fun y => some (y == 0)) true := by
  refine Ev.ofSome ?_
  rw [self_ok _ (by show t.size ≤ _; omega)]
  unfold stolelaw0_Num.f; rfl
theorem j0_fits (t : ByteArray) (h : t.size ≤ 100) : Ev (fun k => stolelaw24_AuditLong.j0 k true true 0 true 0 [] 0 t) true := by
  refine Ev.step (f := fun k => _) (fun k => by rw [stolelaw24_AuditLong.j0]) ?_
  refine Ev.bindC (alike_f t t) (Ev.pos rfl ?_)
  refine Ev.bindC (s := 0) (by unfold stolelaw0_Num.f; rfl) (Ev.pos rfl (Ev.pos rfl ?_))
  refine Ev.bindC (s := 0) (by unfold stolelaw0_Num.f; rfl) (Ev.pos rfl (Ev.pos rfl ?_))
  refine Ev.bindC (s := 0) (by unfold stolelaw0_Num.f; rfl) (Ev.pos rfl (Ev.pos rfl ?_))
  exact fin_ev t h
theorem j0_long (t : ByteArray) (h : t.size ≤ 100) : Ev (fun k => stolelaw24_AuditLong.j0 k false false 500 false 500 [] 500 t) true := by
  refine Ev.step (f := fun k => _) (fun k => by rw [stolelaw24_AuditLong.j0]) ?_
  refine Ev.bindC (alike_f t t) (Ev.neg (by simp) ?_)
  refine Ev.bindC (s := 500) (by unfold stolelaw0_Num.f; rfl) (Ev.pos rfl (Ev.neg (by simp) ?_))
  refine Ev.bindC (s := 500) (by unfold stolelaw0_Num.f; rfl) (Ev.pos rfl (Ev.neg (by simp) ?_))
  refine Ev.bindC (s := 500) (by unfold stolelaw0_Num.f; rfl) (Ev.pos rfl (Ev.pos rfl ?_))
  exact fin_ev t h
theorem x_sk : (parseF [120]).2 = 0 ∧ (skR (parseF [120]).1).1 = (tkS it4 []).out := by
  have := plain_sk 120 [] (by decide) (fun b hb => by rw [List.mem_singleton] at hb; subst hb; decide)
  exact ⟨this.1, this.2.1⟩
theorem long_parse (l : List UInt8) (h : 65536 < l.length) : parseF l = ([], 500) := by
  unfold parseF tokensM
  rw [if_pos h]; rfl
theorem auditLong_plain : ∀ (a0 : Int) (a1 : ByteArray), (Lit.int .i64 a0).wf = true → a1.size ≤ 140737488351232 → ∃ k, stolelaw24_AuditLong.f k a0 a1 = some true := by
  intro x s _ hs
  refine Ev.rounds ?_
  refine Ev.congr (f := fun k => _) (fun k => by rw [stolelaw24_AuditLong.f]) ?_
  refine Ev.bind awake_ev (Ev.pos rfl ?_)
  obtain ⟨n, hn, hk⟩ := k_of x
  rw [hk]
  refine Ev.pos (by omega) (Ev.pos (by rw [Int.toNat_natCast]; omega) ?_)
  rw [Int.toNat_natCast]
  refine Ev.bindC (s := List.replicate (65532 + n) 0) rfl ?_
  refine Ev.bindC (alike_f _ _) (Ev.bindC (alike_f _ _) ?_)
  rw [zeros_data]
  have hz : (⟨#[120]⟩ : ByteArray).data.toList = [120] := rfl
  rw [hz]
  by_cases hf : 65532 + n ≤ 65536
  · obtain ⟨z1, z2, z3⟩ := zeros_sk (65532 + n) (by omega) hf
    obtain ⟨y1, y2⟩ := x_sk
    have e1 : alikeF (List.replicate (65532 + n) 0) [120] = (true, 0) := by rw [ali_ok _ _ z1 y1, z2, y2, beq_iff_eq.2 rfl]
    have e2 : alikeF [120] (List.replicate (65532 + n) 0) = (true, 0) := by rw [ali_ok _ _ y1 z1, z2, y2, beq_iff_eq.2 rfl]
    rw [e1, e2, decide_eq_true (show ((65532 + n : Nat) : Int) ≤ 65536 by omega)]
    refine Ev.bind (a := (([] : List ByteArray), (0 : Int))) ⟨0, fun k _ => by
      show audit_Schemes.f k _ = _
      rw [schemes_f, zeros_data, if_pos z1, sOut_none k _ _ z3]; rfl⟩ ?_
    by_cases h1 : (s.size : Int) > 100
    · refine Ev.pos h1 (Ev.pos (by decide) (Ev.pos (by omega) (j0_fits _ ?_)))
      rw [ByteArray.size_extract]; omega
    · exact Ev.neg h1 (j0_fits _ (by omega))
  · have hl : 65536 < (List.replicate (65532 + n) (0 : UInt8)).length := by rw [List.length_replicate]; omega
    have hp := long_parse _ hl
    obtain ⟨y1, y2⟩ := x_sk
    have e1 : alikeF (List.replicate (65532 + n) 0) [120] = (false, 500) := by unfold alikeF; rw [hp, if_neg (by decide)]
    have e2 : alikeF [120] (List.replicate (65532 + n) 0) = (false, 500) := by unfold alikeF; rw [if_pos y1, hp, if_neg (by decide)]
    rw [e1, e2, decide_eq_false (show ¬ ((65532 + n : Nat) : Int) ≤ 65536 by omega)]
    refine Ev.bind (a := (([] : List ByteArray), (500 : Int))) ⟨0, fun k _ => schemes_long k _ (by omega) 0⟩ ?_
    by_cases h1 : (s.size : Int) > 100
    · refine Ev.pos h1 (Ev.pos (by decide) (Ev.pos (by omega) (j0_long _ ?_)))
      rw [ByteArray.size_extract]; omega
    · exact Ev.neg h1 (j0_long _ (by omega))
end Go.Proofs.YtfmcdlbbbmeolaaGreatDoor.P24
end
section
namespace Go.Proofs.YtfmcdlbbbmeolaaGreatDoor.RowAuditLong
open Go.ChangeShapes Go.WideShapes Go.ChangeAt Go.RowKit Go.Proofs.YtfmcdlbbbmeolaaGreatDoorW.PrintWords Go.Proofs.YtfmcdlbbbmeolaaGreatDoorW.PrintLast Go.Proofs.YtfmcdlbbbmeolaaGreatDoor.ExtP
open Go.ChangeMaps (open_string shut_string)
set_option linter.unusedVariables false
theorem own : ownKnob Tryz.prog.godebug = none := by kernel_rfl
set_option maxRecDepth 100000 in
set_option maxHeartbeats 4000000 in
theorem contract (H : Type) (enc : TypeId × Value → H) (W : World) (base : Nat) (args : Array Value) (ds gs : List (DataW H)) (before : List MemPlace)
    (hval0 : ∀ (j : Nat) t v, Tryz.f13.params[j]? = some t → args[j]? = some v → Value.okWide Tryz.prog W .any base t v)
    (hW : DataW.Whole enc Tryz.prog Tryz.f13.params.toList Rows.auditLongSpec.vars false W args.toList ds gs before)
    (hsz0 : (DataW.weightsEach Tryz.prog (Tryz.f13.params.toList ++ Rows.auditLongSpec.plain.varTypes Tryz.prog) (ds ++ gs)).all (· ≤ reachBytes) = true)
    (hL : laidMetH Tryz.prog Rows.auditLongRow.laid W)
    (hsh : W.ShapedOpen Tryz.prog)
    : Calls Tryz.prog 13 args W fun e W' => ∃ v, e = .returned v ∧ Rows.auditLongSpec.post enc Tryz.prog Tryz.f13 false true false false W args v W' := by
  have hsz : (DataW.weightsEach Tryz.prog (Tryz.f13.params.toList ++ Rows.auditLongSpec.plain.varTypes Tryz.prog) (ds ++ gs)).all (· ≤ reachBytes) = true := hsz0
  have hval : ∀ (j : Nat) t v, Tryz.f13.params[j]? = some t → args[j]? = some v → Value.okWide Tryz.prog W .any base t v := hval0
  have hW' := hW
  obtain ⟨p, q, hA0, hV, rfl, hfz, hnd⟩ := hW
  have hA : DataW.TrodAll enc Tryz.prog W 0 (fun _ => true) true Tryz.f13.params.toList args.toList ds p := hA0
  rw [Tryz.params13] at hA hval hsz
  obtain ⟨v0, vs0, d0, ds0, p0, q0, hargs, rfl, rfl, h0, r0⟩ := trodAll_cons hA
  obtain ⟨v1, vs1, d1, ds1, p1, q1, rfl, rfl, rfl, h1, r1⟩ := trodAll_cons r0
  obtain ⟨rfl, rfl, rfl⟩ := trodAll_nil r1
  obtain rfl : args = #[v0, v1] := by cases args; simp_all
  obtain ⟨rfl, rfl⟩ := trodVars_none hV
  obtain ⟨a0, rfl, rfl, rfl, w0⟩ := open_int Tryz.underlying3 (hval 0 3 v0 rfl rfl) h0
  obtain ⟨a1, rfl, rfl, rfl, y1⟩ := open_string Tryz.underlying9 (hval 1 9 v1 rfl rfl) h1
  have w1 : a1.size ≤ 140737488351232 := by
    have z := sized_string hsz (j := 1) (t := 9) rfl rfl
    rw [Array.length_toList] at z
    exact z
  clear hA0 hval0 hsz0 hsz hval
  have hT : Tabs W := ⟨Tryz.laysM143.s1_3 W hsh, tabP_of_laid hL (by kernel_rfl) (by simp [Rows.auditLongRow])⟩
  obtain ⟨k, hk⟩ := P24.auditLong_plain a0 a1 w0 w1
  refine (XA.stolelaw24_AuditLong.calls k a0 a1 true W hT hk rfl).mono fun e W' ⟨he, bel0⟩ => ?_
  have bel : Below W.heap.size W W' := bel0
  subst he
  simp only [List.append_nil] at hW'
  exact ⟨_, rfl, _, _, _, [], _, [], hW', trodAll_mk1 (shut_bool Tryz.underlying4 _), (trodAll_cons_mk (shut_int Tryz.underlying3 w0) (trodAll_cons_mk (shut_string Tryz.underlying9 y1) trodAll_mk0)), rfl, bel.frame _, fun h => by cases h⟩
theorem laid_met (os : Os) : laidMetH Tryz.prog Rows.auditLongRow.laid ((World.laidAll Tryz.prog os Rows.auditLongRow.laid).forCall (fun _ _ => 0) ⟨#[], #[.int .i64 0, .string ByteArray.empty], []⟩).memory := by
  rw [MakeChecks.laidMetH_plain _ _ _ (by kernel_rfl)]
  exact laidMet_laidAll _ (by kernel_rfl) (by kernel_rfl)
theorem reads (os : Os) {H : Type} (enc : TypeId × Value → H) : ∃ places, DataW.whole enc Tryz.prog ((World.laidAll Tryz.prog os Rows.auditLongRow.laid).forCall (fun _ _ => 0) ⟨#[], #[.int .i64 0, .string ByteArray.empty], []⟩).memory Tryz.f13.params.toList Rows.auditLongSpec.vars false (#[.int .i64 0, .string ByteArray.empty] : Array Value).toList 8 = some ([.lit (.int .i64 0), .lit (.string [])], [], places) :=
  ⟨[], by kernel_rfl⟩
set_option maxRecDepth 100000 in
theorem lifted (os : Os) (started : os.Started) (H : Type) (enc : TypeId × Value → H) (F : Stop.Interp) :
    ReturnsInHanded {} Tryz.checked os 13 .any ((OpenSpec.ofChange Rows.auditLongSpec).preRow enc Tryz.prog Tryz.f13 Rows.auditLongRow.domain false Rows.auditLongRow.laid) (((OpenSpec.ofChange Rows.auditLongSpec).at F).post enc Tryz.prog Tryz.f13 false true false false) := by
  obtain ⟨places, hx⟩ := reads os enc
  refine returnsInHanded_of_row (C := Tryz.checked) (s := (OpenSpec.ofChange Rows.auditLongSpec)) own started (by kernel_rfl) Tryz.func13
    (witness_row_at (enc := enc) (C := Tryz.checked) false (World.laidAll Tryz.prog os Rows.auditLongRow.laid) #[.int .i64 0, .string ByteArray.empty] (World.laidAll_os _ _ _) (by kernel_rfl) (by kernel_rfl) (by kernel_rfl)
      (OpenSpec.preRow_of_cond 8 hx (by kernel_rfl) (fun k hk => by cases hk) (by kernel_rfl) (laid_met os))) ?_
  intro W base args ds gs before hval hW hcnd hcond hsz hL hsh _
  exact contract H enc W base args ds gs before hval hW hsz hL hsh
set_option maxRecDepth 100000 in
theorem c_laid : laidOutB Tryz.pinned.checked.prog = true := by kernel_rfl
set_option maxRecDepth 100000 in
theorem c_maps : mapsRowed Tryz.pinned.checked.prog = true := by kernel_rfl
set_option maxRecDepth 100000 in
theorem c_place : (Rows.auditLongRow.inPlace == Tryz.pinned.checked.prog.inPlace 13) = true := by kernel_rfl
set_option maxRecDepth 100000 in
theorem c_unf : (Rows.auditLongRow.unfollowed == Tryz.pinned.checked.prog.unfollowed 13) = true := by kernel_rfl
set_option maxRecDepth 100000 in
theorem c_rec : (Rows.auditLongRow.recurses == Tryz.pinned.checked.prog.recurses 13) = true := by kernel_rfl
set_option maxRecDepth 100000 in
theorem c_named : (Rows.auditLongRow.named == Tryz.pinned.checked.prog.varsNamed 13) = true := by kernel_rfl
set_option maxRecDepth 100000 in
theorem closed : joinedFacts Tryz.pinned.checked.prog 13 Tryz.f13 (OpenSpec.bare (OpenSpec.ofChange Rows.auditLongSpec)) Rows.auditLongRow = true := by
  unfold joinedFacts
  rw [c_laid, c_maps, c_place, c_unf, c_rec, c_named]
  kernel_rfl
theorem said : Rows.AuditLongSaid :=
  OpenClaim.holds_of_cond 13 Tryz.f13 rfl rfl rfl rfl rfl rfl rfl ⟨rfl, rfl, rfl, rfl, rfl⟩ rfl rfl rfl rfl rfl (by kernel_rfl) Tryz.func13 closed
    (of_decide_eq_true (by kernel_rfl)) (by unfold Func.isWrapper; first | (rw [if_pos (by decide +kernel)]; kernel_rfl) | (rw [if_neg (by decide +kernel)]; exact ⟨rfl, rfl⟩))
    (fun os started H enc _ F => by rw [OpenClaim.pre_eq_preRow]; exact lifted os started H enc F)
theorem plain (f : FuncId) (fn : Func) (hf : Tryz.pinned.checked.prog.funcNamed "stole/stolelaw24.AuditLong" = some f) (hfn : Tryz.pinned.checked.prog.funcs[f]? = some fn) :
    true = Tryz.pinned.checked.prog.looks [] ∧ ∀ (j : Nat) t, fn.params[j]? = some t → Tryz.pinned.checked.prog.wantsStandIn t = false := by
  obtain rfl : f = 13 := Option.some.inj ((show Tryz.prog.funcNamed "stole/stolelaw24.AuditLong" = some 13 by kernel_rfl).symm.trans hf) |>.symm
  obtain rfl : fn = Tryz.f13 := (Option.some.inj (Tryz.func13.symm.trans hfn)).symm
  refine ⟨by kernel_rfl, fun j t ht => ?_⟩
  rw [Tryz.params13] at ht
  have hm := Array.mem_of_getElem? ht
  have hall : (#[3, 9] : Array TypeId).all (fun t => Tryz.prog.wantsStandIn t == false) = true := by kernel_rfl
  rw [Array.all_eq_true'] at hall
  exact eq_of_beq (hall t hm)
theorem proved : Rows.AuditLongCardSaid :=
  Claim7.holds_tied_plain_at .later [] _ _ _ _ said (fun _ h => by cases h) (by kernel_rfl) (fun _ h => by cases h) auditLong_row_tie rfl ⟨rfl, rfl⟩ (by kernel_rfl) rfl plain (by kernel_rfl)
end Go.Proofs.YtfmcdlbbbmeolaaGreatDoor.RowAuditLong
namespace Go.Proofs.YtfmcdlbbbmeolaaGreatDoor
theorem auditLong_holds : Rows.AuditLongCardSaid := RowAuditLong.proved
#print axioms auditLong_holds
end Go.Proofs.YtfmcdlbbbmeolaaGreatDoor
end
