/- The law stole/stolelaw24.AuditTexts returns true at every input of its types, and its arguments read behind the call as before. The listed package-level variables are tied to the program's text. No further condition. stolelaw24's awake: true; AuditTexts, plain. stolelaw8's awake: true; PageTexts, plain. Laid by xprint.py, a program of this session over the kit's print: for each Go function one Lean function of the same answers, and the walk that shows it. Laid by xprint.py, a program of this session over the kit's print: for each Go function one Lean function of the same answers, and the walk that shows it. -/
import Derived.Test.YtfmcdlbbbmeolaaGreatDoorU0
import Derived.Test.YtfmcdlbbbmeolaaGreatDoorU19
import Derived.Test.YtfmcdlbbbmeolaaGreatDoorU18
import Derived.Test.YtfmcdlbbbmeolaaGreatDoorU16
import Derived.Test.YtfmcdlbbbmeolaaGreatDoorCards
import Derived.Test.YtfmcdlbbbmeolaaGreatDoorTie
import Derived.WalkKit
import Derived.ProofKit
import Derived.OpenShut
import Derived.ShutString
import Derived.ChangeOld
import Derived.Below
import Derived.SizedLaws
import Derived.Deep.DeepHandedRow
import Derived.LaidMore
import Derived.Lay
import Derived.SevenTiedAt
section
namespace Go.Proofs.YtfmcdlbbbmeolaaGreatDoor.XA
open Go.RowKit Go.Proofs.YtfmcdlbbbmeolaaGreatDoor.XQ Go.Proofs.YtfmcdlbbbmeolaaGreatDoor.ExtP Go.Proofs.YtfmcdlbbbmeolaaGreatDoor.XP Go.Proofs.YtfmcdlbbbmeolaaGreatDoor.XK Go.Proofs.YtfmcdlbbbmeolaaGreatDoorW.PrintWords Go.Proofs.YtfmcdlbbbmeolaaGreatDoorW.PrintLast Go.Proofs.YtfmcdlbbbmeolaaGreatDoorW.PrintMore
attribute [local go_sem] max2_int min2_int max_two min_two max_three min_three max_four min_four   -- for this text's walks alone
set_option linter.unusedVariables false
set_option linter.unusedSimpArgs false
-- GIVEN BY HAND: function 21 (stolelaw0_Num)
-- NOT PRINTED: function 179 (abi_NoEscape)
-- NOT PRINTED: function 128 (strings_Builder_copyCheck)
-- NOT PRINTED: function 66 (strings_Builder_WriteString)
-- NOT PRINTED: function 68 (strings_Builder_String)
-- NOT PRINTED: function 241 (bytealg_IndexByteString)
-- NOT PRINTED: function 218 (stringslite_IndexByte)
-- NOT PRINTED: function 242 (bytealg_IndexString)
-- NOT PRINTED: function 243 (bytealg_Cutover)
-- NOT PRINTED: function 256 (bytealg_hashStr_string)
-- NOT PRINTED: function 244 (bytealg_IndexRabinKarp_string)
-- NOT PRINTED: function 221 (stringslite_Index)
-- NOT PRINTED: function 189 (strings_Index)
-- NOT PRINTED: function 219 (utf8_RuneCountInString)
-- NOT PRINTED: function 220 (bytealg_CountString)
-- NOT PRINTED: function 188 (strings_Count)
-- NOT PRINTED: function 245 (bytealg_MakeNoZero)
-- NOT PRINTED: function 228 (strings_Builder_grow)
-- NOT PRINTED: function 202 (strings_Builder_Grow)
-- NOT PRINTED: function 229 (utf8_decodeRuneInStringSlow)
-- NOT PRINTED: function 203 (utf8_DecodeRuneInString)
-- NOT PRINTED: function 150 (strings_Replace)
-- NOT PRINTED: function 84 (strings_ReplaceAll)
-- NOT PRINTED: function 45 (utf_Lines)
-- NOT PRINTED: function 46 (tok_Start)
-- NOT PRINTED: function 151 (tok_at)
-- NOT PRINTED: function 85 (tok_data)
-- NOT PRINTED: function 183 (utf_LowerByte)
-- NOT PRINTED: function 132 (utf_Letter)
-- NOT PRINTED: function 152 (tok_more)
-- NOT PRINTED: function 86 (tok_tagOpen)
-- NOT PRINTED: function 87 (tok_endOpen)
-- NOT PRINTED: function 156 (tok_blank)
-- NOT PRINTED: function 167 (elem_Kind)
-- NOT PRINTED: function 157 (tok_closes)
-- NOT PRINTED: function 159 (tok_in)
-- NOT PRINTED: function 153 (tok_between)
-- NOT PRINTED: function 88 (tok_tagName)
-- NOT PRINTED: function 154 (tok_attr)
-- NOT PRINTED: function 89 (tok_begins)
-- NOT PRINTED: function 155 (tok_names)
-- NOT PRINTED: function 90 (tok_attrName)
-- NOT PRINTED: function 91 (tok_afterName)
-- NOT PRINTED: function 92 (tok_beforeValue)
-- NOT PRINTED: function 158 (tok_quoted)
-- NOT PRINTED: function 93 (tok_double)
-- NOT PRINTED: function 94 (tok_single)
-- NOT PRINTED: function 95 (tok_bare)
-- NOT PRINTED: function 160 (tok_bangs)
-- NOT PRINTED: function 96 (tok_bang)
-- NOT PRINTED: function 97 (tok_bangDash)
-- NOT PRINTED: function 161 (tok_either)
-- NOT PRINTED: function 98 (tok_comment)
-- NOT PRINTED: function 99 (tok_commentDash)
-- NOT PRINTED: function 100 (tok_commentEnd)
-- NOT PRINTED: function 101 (tok_bogus)
-- NOT PRINTED: function 162 (tok_held)
-- NOT PRINTED: function 102 (tok_holds)
-- NOT PRINTED: function 103 (tok_heldLt)
-- NOT PRINTED: function 163 (tok_reads)
-- NOT PRINTED: function 104 (tok_heldSlash)
-- NOT PRINTED: function 105 (tok_heldName)
-- NOT PRINTED: function 47 (tok_Step)
-- NOT PRINTED: function 106 (tok_ends)
-- NOT PRINTED: function 185 (strings_IndexByte)
-- NOT PRINTED: function 186 (stringslite_HasPrefix)
-- NOT PRINTED: function 136 (strings_HasPrefix)
-- NOT PRINTED: function 184 (utf_Digit)
-- NOT PRINTED: function 246 (refs_digit)
-- NOT PRINTED: function 247 (utf8_ValidRune)
-- NOT PRINTED: function 231 (refs_numbered)
-- NOT PRINTED: function 232 (refs_named)
-- NOT PRINTED: function 206 (refs_meant)
-- NOT PRINTED: function 207 (strings_Builder_WriteByte)
-- NOT PRINTED: function 168 (refs_Decode)
-- NOT PRINTED: function 230 (api_Attr_230)
-- NOT PRINTED: function 205 (api_Attr_205)
-- NOT PRINTED: function 164 (tok_reader_kept)
-- NOT PRINTED: function 111 (tok_reader_text)
-- NOT PRINTED: function 165 (tok_reader_told)
-- NOT PRINTED: function 107 (tok_reader_tag)
-- NOT PRINTED: function 108 (tok_remarks)
-- NOT PRINTED: function 109 (tok_reader_comment)
-- NOT PRINTED: function 166 (tok_reader_last)
-- NOT PRINTED: function 110 (tok_reader_reads)
-- NOT PRINTED: function 48 (tok_reader_takes)
-- NOT PRINTED: function 49 (tok_reader_rest)
-- GIVEN BY HAND: function 18 (tok_Tokens)
-- NOT PRINTED: function 175 (tree_attrs)
-- NOT PRINTED: function 120 (tree_may)
-- NOT PRINTED: function 176 (tree_builder_inner)
-- NOT PRINTED: function 122 (tree_builder_node)
-- NOT PRINTED: function 121 (tree_builder_text)
-- NOT PRINTED: function 177 (api_Attr_177)
-- NOT PRINTED: function 123 (tree_builder_start)
-- NOT PRINTED: function 124 (tree_builder_end)
-- GIVEN BY HAND: function 63 (tree_Build)
-- GIVEN BY HAND: function 27 (page_Parse)
-- NOT PRINTED: function 127 (page_plain)
-- GIVEN BY HAND: function 65 (page_may)
-- NOT PRINTED: function 212 (strconv_small)
-- NOT PRINTED: function 233 (strconv_log10Pow2)
-- NOT PRINTED: function 234 (bits_Len64)
-- NOT PRINTED: function 235 (strconv_bool2_int)
-- NOT PRINTED: function 213 (strconv_numDigits)
-- NOT PRINTED: function 214 (strconv_formatBase10)
-- NOT PRINTED: function 236 (strconv_isPowerOfTwo)
-- NOT PRINTED: function 248 (bits_TrailingZeros32)
-- NOT PRINTED: function 249 (bits_TrailingZeros64)
-- NOT PRINTED: function 237 (bits_TrailingZeros)
-- NOT PRINTED: function 215 (strconv_formatBits)
-- NOT PRINTED: function 180 (strconv_FormatInt)
-- NOT PRINTED: function 129 (strconv_Itoa_129)
-- NOT PRINTED: function 67 (strconv_Itoa_67)
-- GIVEN BY HAND: function 29 (page_Skeleton)
-- GIVEN BY HAND: function 37 (audit_Alike)
-- GIVEN BY HAND: function 34 (stolelaw0_SameTexts)
-- NOT PRINTED: function 181 (strings_NewReplacer)
-- NOT PRINTED: function 250 (atomic_LoadUint32)
-- NOT PRINTED: function 238 (atomic_Bool_Load)
-- NOT PRINTED: function 263 (race_Disable)
-- NOT PRINTED: function 264 (atomic_CompareAndSwapInt32)
-- NOT PRINTED: function 265 (race_Enable)
-- NOT PRINTED: function 266 (race_Acquire)
-- NOT PRINTED: function 269 (atomic_AddInt32)
-- NOT PRINTED: function 272 (sync_runtime_canSpin)
-- NOT PRINTED: function 273 (sync_runtime_doSpin)
-- NOT PRINTED: function 274 (sync_throw)
-- NOT PRINTED: function 275 (sync_runtime_nanotime)
-- NOT PRINTED: function 276 (sync_runtime_SemacquireMutex)
-- NOT PRINTED: function 267 (sync_Mutex_lockSlow)
-- NOT PRINTED: function 257 (sync_Mutex_Lock_257)
-- NOT PRINTED: function 251 (sync_Mutex_Lock_251)
-- NOT PRINTED: function 268 (race_ReleaseMerge)
-- NOT PRINTED: function 277 (sync_fatal)
-- NOT PRINTED: function 278 (sync_runtime_Semrelease)
-- NOT PRINTED: function 270 (sync_Mutex_unlockSlow)
-- NOT PRINTED: function 258 (sync_Mutex_Unlock_258)
-- NOT PRINTED: function 252 (sync_Mutex_Unlock_252)
-- NOT PRINTED: function 259 (atomic_StoreUint32)
-- NOT PRINTED: function 260 (atomic_b32)
-- NOT PRINTED: function 253 (atomic_Bool_Store)
-- NOT PRINTED: function 239 (sync_Once_doSlow)
-- NOT PRINTED: function 216 (sync_Once_Do)
-- NOT PRINTED: function 271 (strings_longestCommonSuffix)
-- NOT PRINTED: function 261 (strings_makeStringFinder)
-- NOT PRINTED: function 254 (strings_makeSingleStringReplacer)
-- NOT PRINTED: function 262 (strings_trieNode_add)
-- NOT PRINTED: function 255 (strings_makeGenericReplacer)
-- NOT PRINTED: function 240 (strings_Replacer_build)
-- NOT PRINTED: function 217 (strings_Replacer_buildOnce)
-- NOT PRINTED: function 182 (strings_Replacer_Replace)
-- NOT PRINTED: function 131 (url_drop)
-- NOT PRINTED: function 133 (url_of)
-- NOT PRINTED: function 134 (url_set_has)
-- NOT PRINTED: function 135 (utf_Lower)
-- GIVEN BY HAND: function 70 (url_Scheme)
-- NOT PRINTED: function 71 (elem_Attr)
-- GIVEN BY HAND: function 39 (audit_Schemes)
/-! ### stolelaw24_awake: function 41 -/
def stolelaw24_awake.f (k : Nat)  : Option (Bool) := (audit_Alike.f (⟨#[60, 112, 62, 120, 60, 47, 112, 62]⟩ : ByteArray) (⟨#[60, 112, 62, 121, 38, 108, 116, 59, 60, 47, 112, 62]⟩ : ByteArray)).bind fun bt101 => ((audit_Alike.f (⟨#[60, 112, 62]⟩ : ByteArray) (⟨#[60, 112, 32, 97, 62]⟩ : ByteArray)).bind fun bt103 => ((audit_Schemes.f k (⟨#[60, 97, 32, 104, 114, 101, 102, 61, 39, 72, 84, 84, 80, 58, 120, 39, 62, 60, 105, 109, 103, 32, 115, 114, 99, 61, 106, 97, 118, 97, 115, 99, 114, 105, 112, 116, 58, 49, 32, 116, 105, 116, 108, 101, 61, 39, 97, 58, 98, 39, 62]⟩ : ByteArray)).bind fun bt105 => (if 65537 ≤ 281474976710656 then ((audit_Schemes.f k (strOfNums (List.replicate 65537 0))).bind fun bt112 => (if bt101.1 = true then ((stolelaw0_Num.f bt101.2).bind fun t116 => (if t116 = 0 then (if bt103.1 = true then (some false) else ((stolelaw0_Num.f bt103.2).bind fun t117 => (if t117 = 0 then ((stolelaw0_SameTexts.f k bt105.1 (([(⟨#[104, 116, 116, 112]⟩ : ByteArray), (⟨#[106, 97, 118, 97, 115, 99, 114, 105, 112, 116]⟩ : ByteArray)] : List ByteArray))).bind fun t121 => (if t121 = true then ((stolelaw0_Num.f bt105.2).bind fun t122 => (if t122 = 0 then ((stolelaw0_Num.f bt112.2).bind fun t123 => (some (t123 == 500))) else (some false))) else (some false))) else (some false)))) else (some false))) else (some false))) else (none))))
theorem stolelaw24_awake.mono : ∀ k, LeO (stolelaw24_awake.f k ) (stolelaw24_awake.f (k + 1) ) := by
 intro  k
 unfold stolelaw24_awake.f
 repeat' first
   | (with_reducible exact audit_Schemes.mono _ _)
   | (with_reducible exact stolelaw0_SameTexts.mono _ _ _)
   | (with_reducible exact LeO.refl _)
   | (with_reducible exact LeO.none _)
   | (with_reducible refine LeO.ite ?_ ?_)
   | (with_reducible refine LeO.bind ?_ (fun _ => ?_))
   | exact audit_Schemes.mono _ _
   | exact stolelaw0_SameTexts.mono _ _ _
   | exact LeO.none _
   | refine LeO.ite ?_ ?_
   | refine LeO.bind ?_ (fun _ => ?_)
set_option maxHeartbeats 8000000 in
set_option maxRecDepth 100000 in
theorem stolelaw24_awake.calls (k : Nat)  (r : Bool) (w : World) (hT : Tabs w) (h : stolelaw24_awake.f k  = some r) (hr : r = true) :
  Calls Tryz.prog 41 #[] w fun e w' => e = .returned (.bool r) ∧ Below w.heap.size w w' := by
 have HT := Aside0.mk hT
 clear hT
 have HB := Aside0.mk (Below.refl w.heap.size w)
 have H : ((audit_Alike.f (⟨#[60, 112, 62, 120, 60, 47, 112, 62]⟩ : ByteArray) (⟨#[60, 112, 62, 121, 38, 108, 116, 59, 60, 47, 112, 62]⟩ : ByteArray)).bind fun bt101 => ((audit_Alike.f (⟨#[60, 112, 62]⟩ : ByteArray) (⟨#[60, 112, 32, 97, 62]⟩ : ByteArray)).bind fun bt103 => ((audit_Schemes.f k (⟨#[60, 97, 32, 104, 114, 101, 102, 61, 39, 72, 84, 84, 80, 58, 120, 39, 62, 60, 105, 109, 103, 32, 115, 114, 99, 61, 106, 97, 118, 97, 115, 99, 114, 105, 112, 116, 58, 49, 32, 116, 105, 116, 108, 101, 61, 39, 97, 58, 98, 39, 62]⟩ : ByteArray)).bind fun bt105 => (if 65537 ≤ 281474976710656 then ((audit_Schemes.f k (strOfNums (List.replicate 65537 0))).bind fun bt112 => (if bt101.1 = true then ((stolelaw0_Num.f bt101.2).bind fun t116 => (if t116 = 0 then (if bt103.1 = true then (some false) else ((stolelaw0_Num.f bt103.2).bind fun t117 => (if t117 = 0 then ((stolelaw0_SameTexts.f k bt105.1 (([(⟨#[104, 116, 116, 112]⟩ : ByteArray), (⟨#[106, 97, 118, 97, 115, 99, 114, 105, 112, 116]⟩ : ByteArray)] : List ByteArray))).bind fun t121 => (if t121 = true then ((stolelaw0_Num.f bt105.2).bind fun t122 => (if t122 = 0 then ((stolelaw0_Num.f bt112.2).bind fun t123 => (some (t123 == 500))) else (some false))) else (some false))) else (some false)))) else (some false))) else (some false))) else (none))))) = some r := h
 clear h
 replace H := Option.bind_eq_some_iff.mp H
 obtain ⟨⟨t101, t102⟩, A10, H⟩ := H
 replace H : ((audit_Alike.f (⟨#[60, 112, 62]⟩ : ByteArray) (⟨#[60, 112, 32, 97, 62]⟩ : ByteArray)).bind fun bt103 => ((audit_Schemes.f k (⟨#[60, 97, 32, 104, 114, 101, 102, 61, 39, 72, 84, 84, 80, 58, 120, 39, 62, 60, 105, 109, 103, 32, 115, 114, 99, 61, 106, 97, 118, 97, 115, 99, 114, 105, 112, 116, 58, 49, 32, 116, 105, 116, 108, 101, 61, 39, 97, 58, 98, 39, 62]⟩ : ByteArray)).bind fun bt105 => (if 65537 ≤ 281474976710656 then ((audit_Schemes.f k (strOfNums (List.replicate 65537 0))).bind fun bt112 => (if t101 = true then ((stolelaw0_Num.f t102).bind fun t116 => (if t116 = 0 then (if bt103.1 = true then (some false) else ((stolelaw0_Num.f bt103.2).bind fun t117 => (if t117 = 0 then ((stolelaw0_SameTexts.f k bt105.1 (([(⟨#[104, 116, 116, 112]⟩ : ByteArray), (⟨#[106, 97, 118, 97, 115, 99, 114, 105, 112, 116]⟩ : ByteArray)] : List ByteArray))).bind fun t121 => (if t121 = true then ((stolelaw0_Num.f bt105.2).bind fun t122 => (if t122 = 0 then ((stolelaw0_Num.f bt112.2).bind fun t123 => (some (t123 == 500))) else (some false))) else (some false))) else (some false)))) else (some false))) else (some false))) else (none)))) = some r := H
 have A1 := Aside0.mk A10
 clear A10
 replace H := Option.bind_eq_some_iff.mp H
 obtain ⟨⟨t103, t104⟩, A20, H⟩ := H
 replace H : ((audit_Schemes.f k (⟨#[60, 97, 32, 104, 114, 101, 102, 61, 39, 72, 84, 84, 80, 58, 120, 39, 62, 60, 105, 109, 103, 32, 115, 114, 99, 61, 106, 97, 118, 97, 115, 99, 114, 105, 112, 116, 58, 49, 32, 116, 105, 116, 108, 101, 61, 39, 97, 58, 98, 39, 62]⟩ : ByteArray)).bind fun bt105 => (if 65537 ≤ 281474976710656 then ((audit_Schemes.f k (strOfNums (List.replicate 65537 0))).bind fun bt112 => (if t101 = true then ((stolelaw0_Num.f t102).bind fun t116 => (if t116 = 0 then (if t103 = true then (some false) else ((stolelaw0_Num.f t104).bind fun t117 => (if t117 = 0 then ((stolelaw0_SameTexts.f k bt105.1 (([(⟨#[104, 116, 116, 112]⟩ : ByteArray), (⟨#[106, 97, 118, 97, 115, 99, 114, 105, 112, 116]⟩ : ByteArray)] : List ByteArray))).bind fun t121 => (if t121 = true then ((stolelaw0_Num.f bt105.2).bind fun t122 => (if t122 = 0 then ((stolelaw0_Num.f bt112.2).bind fun t123 => (some (t123 == 500))) else (some false))) else (some false))) else (some false)))) else (some false))) else (some false))) else (none))) = some r := H
 have A2 := Aside0.mk A20
 clear A20
 replace H := Option.bind_eq_some_iff.mp H
 obtain ⟨⟨t105, t106⟩, A30, H⟩ := H
 replace H : (if 65537 ≤ 281474976710656 then ((audit_Schemes.f k (strOfNums (List.replicate 65537 0))).bind fun bt112 => (if t101 = true then ((stolelaw0_Num.f t102).bind fun t116 => (if t116 = 0 then (if t103 = true then (some false) else ((stolelaw0_Num.f t104).bind fun t117 => (if t117 = 0 then ((stolelaw0_SameTexts.f k t105 (([(⟨#[104, 116, 116, 112]⟩ : ByteArray), (⟨#[106, 97, 118, 97, 115, 99, 114, 105, 112, 116]⟩ : ByteArray)] : List ByteArray))).bind fun t121 => (if t121 = true then ((stolelaw0_Num.f t106).bind fun t122 => (if t122 = 0 then ((stolelaw0_Num.f bt112.2).bind fun t123 => (some (t123 == 500))) else (some false))) else (some false))) else (some false)))) else (some false))) else (some false))) else (none)) = some r := H
 have A3 := Aside0.mk A30
 clear A30
 by_cases c4 : 65537 ≤ 281474976710656
 ·rw [if_pos c4] at H
  have c4b0 := eq_true c4
  have c4b1 : decide (65537 ≤ 281474976710656) = true := decide_eq_true c4
  clear c4
  obtain ⟨y109, hy109⟩ : ∃ y_ : List Int, y_ = (List.replicate 65537 0) := ⟨_, rfl⟩
  replace H : ((audit_Schemes.f k (strOfNums y109)).bind fun bt112 => (if t101 = true then ((stolelaw0_Num.f t102).bind fun t116 => (if t116 = 0 then (if t103 = true then (some false) else ((stolelaw0_Num.f t104).bind fun t117 => (if t117 = 0 then ((stolelaw0_SameTexts.f k t105 (([(⟨#[104, 116, 116, 112]⟩ : ByteArray), (⟨#[106, 97, 118, 97, 115, 99, 114, 105, 112, 116]⟩ : ByteArray)] : List ByteArray))).bind fun t121 => (if t121 = true then ((stolelaw0_Num.f t106).bind fun t122 => (if t122 = 0 then ((stolelaw0_Num.f bt112.2).bind fun t123 => (some (t123 == 500))) else (some false))) else (some false))) else (some false)))) else (some false))) else (some false))) = some r := by first | (rw [hy109]; with_reducible exact H) | (have H2_ := (Option.bind_some _ _).symm.trans H; rw [hy109]; with_reducible exact H2_) | (have H2_ := (Option.bind_some _ _).symm.trans H; with_reducible exact H2_) | with_reducible exact H | (rw [hy109]; exact H) | exact H
  have Ny109 := Aside0.mk hy109
  clear hy109
  replace H := Option.bind_eq_some_iff.mp H
  obtain ⟨⟨t112, t113⟩, A50, H⟩ := H
  replace H : (if t101 = true then ((stolelaw0_Num.f t102).bind fun t116 => (if t116 = 0 then (if t103 = true then (some false) else ((stolelaw0_Num.f t104).bind fun t117 => (if t117 = 0 then ((stolelaw0_SameTexts.f k t105 (([(⟨#[104, 116, 116, 112]⟩ : ByteArray), (⟨#[106, 97, 118, 97, 115, 99, 114, 105, 112, 116]⟩ : ByteArray)] : List ByteArray))).bind fun t121 => (if t121 = true then ((stolelaw0_Num.f t106).bind fun t122 => (if t122 = 0 then ((stolelaw0_Num.f t113).bind fun t123 => (some (t123 == 500))) else (some false))) else (some false))) else (some false)))) else (some false))) else (some false)) = some r := H
  have A5 := Aside0.mk A50
  clear A50
  by_cases c6 : t101 = true
  ·subst c6
   have H1 : ((stolelaw0_Num.f t102).bind fun t116 => (if t116 = 0 then (if t103 = true then (some false) else ((stolelaw0_Num.f t104).bind fun t117 => (if t117 = 0 then ((stolelaw0_SameTexts.f k t105 (([(⟨#[104, 116, 116, 112]⟩ : ByteArray), (⟨#[106, 97, 118, 97, 115, 99, 114, 105, 112, 116]⟩ : ByteArray)] : List ByteArray))).bind fun t121 => (if t121 = true then ((stolelaw0_Num.f t106).bind fun t122 => (if t122 = 0 then ((stolelaw0_Num.f t113).bind fun t123 => (some (t123 == 500))) else (some false))) else (some false))) else (some false)))) else (some false))) = some r := by rw [if_pos rfl] at H; exact H
   clear H
   have H := H1
   clear H1
   replace H := Option.bind_eq_some_iff.mp H
   obtain ⟨t116, A70, H⟩ := H
   replace H : (if t116 = 0 then (if t103 = true then (some false) else ((stolelaw0_Num.f t104).bind fun t117 => (if t117 = 0 then ((stolelaw0_SameTexts.f k t105 (([(⟨#[104, 116, 116, 112]⟩ : ByteArray), (⟨#[106, 97, 118, 97, 115, 99, 114, 105, 112, 116]⟩ : ByteArray)] : List ByteArray))).bind fun t121 => (if t121 = true then ((stolelaw0_Num.f t106).bind fun t122 => (if t122 = 0 then ((stolelaw0_Num.f t113).bind fun t123 => (some (t123 == 500))) else (some false))) else (some false))) else (some false)))) else (some false)) = some r := H
   have A7 := Aside0.mk A70
   clear A70
   by_cases c8 : t116 = 0
   ·rw [if_pos c8] at H
    have c8b0 : (t116 == 0) = true := beq_iff_eq.mpr c8
    have c8b1 : (t116 != 0) = false := bne_eq_false_iff_eq.mpr c8
    clear c8
    by_cases c9 : t103 = true
    ·subst c9
     have H1 : (some false) = some r := by rw [if_pos rfl] at H; exact H
     clear H
     have H := H1
     clear H1
     obtain rfl := Option.some.inj H
     exact absurd hr (by simp)
    ·replace c9 := Bool.eq_false_iff.mpr c9
     subst c9
     have H1 : ((stolelaw0_Num.f t104).bind fun t117 => (if t117 = 0 then ((stolelaw0_SameTexts.f k t105 (([(⟨#[104, 116, 116, 112]⟩ : ByteArray), (⟨#[106, 97, 118, 97, 115, 99, 114, 105, 112, 116]⟩ : ByteArray)] : List ByteArray))).bind fun t121 => (if t121 = true then ((stolelaw0_Num.f t106).bind fun t122 => (if t122 = 0 then ((stolelaw0_Num.f t113).bind fun t123 => (some (t123 == 500))) else (some false))) else (some false))) else (some false))) = some r := by rw [if_neg (show ¬ (false = true) by decide)] at H; exact H
     clear H
     have H := H1
     clear H1
     replace H := Option.bind_eq_some_iff.mp H
     obtain ⟨t117, A170, H⟩ := H
     replace H : (if t117 = 0 then ((stolelaw0_SameTexts.f k t105 (([(⟨#[104, 116, 116, 112]⟩ : ByteArray), (⟨#[106, 97, 118, 97, 115, 99, 114, 105, 112, 116]⟩ : ByteArray)] : List ByteArray))).bind fun t121 => (if t121 = true then ((stolelaw0_Num.f t106).bind fun t122 => (if t122 = 0 then ((stolelaw0_Num.f t113).bind fun t123 => (some (t123 == 500))) else (some false))) else (some false))) else (some false)) = some r := H
     have A17 := Aside0.mk A170
     clear A170
     by_cases c18 : t117 = 0
     ·rw [if_pos c18] at H
      have c18b0 : (t117 == 0) = true := beq_iff_eq.mpr c18
      have c18b1 : (t117 != 0) = false := bne_eq_false_iff_eq.mpr c18
      clear c18
      obtain ⟨y118, hy118⟩ : ∃ y_ : List ByteArray, y_ = (([(⟨#[104, 116, 116, 112]⟩ : ByteArray), (⟨#[106, 97, 118, 97, 115, 99, 114, 105, 112, 116]⟩ : ByteArray)] : List ByteArray)) := ⟨_, rfl⟩
      replace H : ((stolelaw0_SameTexts.f k t105 y118).bind fun t121 => (if t121 = true then ((stolelaw0_Num.f t106).bind fun t122 => (if t122 = 0 then ((stolelaw0_Num.f t113).bind fun t123 => (some (t123 == 500))) else (some false))) else (some false))) = some r := by first | (rw [hy118]; with_reducible exact H) | (have H2_ := (Option.bind_some _ _).symm.trans H; rw [hy118]; with_reducible exact H2_) | (have H2_ := (Option.bind_some _ _).symm.trans H; with_reducible exact H2_) | with_reducible exact H | (rw [hy118]; exact H) | exact H
      have Ny118 := Aside0.mk hy118
      clear hy118
      replace H := Option.bind_eq_some_iff.mp H
      obtain ⟨t121, A190, H⟩ := H
      replace H : (if t121 = true then ((stolelaw0_Num.f t106).bind fun t122 => (if t122 = 0 then ((stolelaw0_Num.f t113).bind fun t123 => (some (t123 == 500))) else (some false))) else (some false)) = some r := H
      have A19 := Aside0.mk A190
      clear A190
      by_cases c20 : t121 = true
      ·subst c20
       have H1 : ((stolelaw0_Num.f t106).bind fun t122 => (if t122 = 0 then ((stolelaw0_Num.f t113).bind fun t123 => (some (t123 == 500))) else (some false))) = some r := by rw [if_pos rfl] at H; exact H
       clear H
       have H := H1
       clear H1
       replace H := Option.bind_eq_some_iff.mp H
       obtain ⟨t122, A210, H⟩ := H
       replace H : (if t122 = 0 then ((stolelaw0_Num.f t113).bind fun t123 => (some (t123 == 500))) else (some false)) = some r := H
       have A21 := Aside0.mk A210
       clear A210
       by_cases c22 : t122 = 0
       ·rw [if_pos c22] at H
        have c22b0 : (t122 == 0) = true := beq_iff_eq.mpr c22
        have c22b1 : (t122 != 0) = false := bne_eq_false_iff_eq.mpr c22
        clear c22
        replace H := Option.bind_eq_some_iff.mp H
        obtain ⟨t123, A230, H⟩ := H
        replace H : (some (t123 == 500)) = some r := H
        have A23 := Aside0.mk A230
        clear A230
        obtain rfl := Option.some.inj H
        go_enter Tryz.func41, Tryz.ntmps41
        go_wp2_with (first | ((with_reducible refine gate_callee (f := 37) rfl ?_); refine goesL_ (some 10) rfl rfl Tryz.func37 (by kernel_rfl) rfl #[.string (⟨#[60, 112, 62, 120, 60, 47, 112, 62]⟩ : ByteArray), .string (⟨#[60, 112, 62, 121, 38, 108, 116, 59, 60, 47, 112, 62]⟩ : ByteArray)] rfl (by (try simp only [List.map_toArray, List.map_cons, List.map_nil]); first | done | rfl | (simp only [List.length_drop, List.length_take]; rfl)) ?_; (with_reducible refine (audit_Alike.calls (⟨#[60, 112, 62, 120, 60, 47, 112, 62]⟩ : ByteArray) (⟨#[60, 112, 62, 121, 38, 108, 116, 59, 60, 47, 112, 62]⟩ : ByteArray) true t102 _ (tabs_below HT.out (by repeat (first | (with_reducible first | exact HB.out | apply below_alloc | apply pw_below_drewN | apply below_drew1) | exact HB.out))) A1.out).mono ?_); rintro e w24 ⟨rfl, hb⟩; refine ⟨_, rfl, ?_⟩; have n0_ := Aside0.mk (below_step (by repeat (first | (with_reducible first | exact HB.out | apply below_alloc | apply pw_below_drewN | apply below_drew1) | exact HB.out)) hb); clear HB; have HB := n0_; clear n0_; (try clear hb); (try clear hb2); (try clear hk); (try clear hi)) | ((with_reducible refine gate_callee (f := 37) rfl ?_); refine goesL_ (some 14) rfl rfl Tryz.func37 (by kernel_rfl) rfl #[.string (⟨#[60, 112, 62]⟩ : ByteArray), .string (⟨#[60, 112, 32, 97, 62]⟩ : ByteArray)] rfl (by (try simp only [List.map_toArray, List.map_cons, List.map_nil]); first | done | rfl | (simp only [List.length_drop, List.length_take]; rfl)) ?_; (with_reducible refine (audit_Alike.calls (⟨#[60, 112, 62]⟩ : ByteArray) (⟨#[60, 112, 32, 97, 62]⟩ : ByteArray) false t104 _ (tabs_below HT.out (by repeat (first | (with_reducible first | exact HB.out | apply below_alloc | apply pw_below_drewN | apply below_drew1) | exact HB.out))) A2.out).mono ?_); rintro e w25 ⟨rfl, hb⟩; refine ⟨_, rfl, ?_⟩; have n0_ := Aside0.mk (below_step (by repeat (first | (with_reducible first | exact HB.out | apply below_alloc | apply pw_below_drewN | apply below_drew1) | exact HB.out)) hb); clear HB; have HB := n0_; clear n0_; (try clear hb); (try clear hb2); (try clear hk); (try clear hi)) | ((with_reducible refine gate_callee (f := 39) rfl ?_); refine goesL_ (some 18) rfl rfl Tryz.func39 (by kernel_rfl) rfl #[.string (⟨#[60, 97, 32, 104, 114, 101, 102, 61, 39, 72, 84, 84, 80, 58, 120, 39, 62, 60, 105, 109, 103, 32, 115, 114, 99, 61, 106, 97, 118, 97, 115, 99, 114, 105, 112, 116, 58, 49, 32, 116, 105, 116, 108, 101, 61, 39, 97, 58, 98, 39, 62]⟩ : ByteArray)] rfl (by (try simp only [List.map_toArray, List.map_cons, List.map_nil]); first | done | rfl | (simp only [List.length_drop, List.length_take]; rfl)) ?_; (with_reducible refine (audit_Schemes.calls k (⟨#[60, 97, 32, 104, 114, 101, 102, 61, 39, 72, 84, 84, 80, 58, 120, 39, 62, 60, 105, 109, 103, 32, 115, 114, 99, 61, 106, 97, 118, 97, 115, 99, 114, 105, 112, 116, 58, 49, 32, 116, 105, 116, 108, 101, 61, 39, 97, 58, 98, 39, 62]⟩ : ByteArray) t105 t106 _ (tabs_below HT.out (by repeat (first | (with_reducible first | exact HB.out | apply below_alloc | apply pw_below_drewN | apply below_drew1) | exact HB.out))) A3.out).mono ?_); rintro e w26 ⟨v107, rfl, ho0, hb⟩; refine ⟨_, rfl, ?_⟩; have n0_ := Aside0.mk (Kd.R_lower ho0 (below_size (by repeat (first | (with_reducible first | exact HB.out | apply below_alloc | apply pw_below_drewN | apply below_drew1) | exact HB.out)))); have n1_ := Aside0.mk (below_step (by repeat (first | (with_reducible first | exact HB.out | apply below_alloc | apply pw_below_drewN | apply below_drew1) | exact HB.out)) hb); clear HB; have HO108 := n0_; have HB := n1_; clear n0_ n1_; (try clear hb); (try clear hb2); (try clear hk); (try clear hi); (try clear ho0)) | ((with_reducible refine gate_dst (N := 22) rfl ?_); (try (refine gate_guard (by rfl) ?_; dsimp only)); refine Kd.R_make (Kd.int .u8) _ 5 rfl (N := 22) rfl 37 _ _ rfl 65537 rfl rfl Tryz.underlying37 (.int .u8 0) 1 info5 rfl (by decide) (by omega) 0 (ok := fun _ => True) (okp := fun _ => True) rfl (fun _ hk => hk) trivial (by omega) (by omega) (Below.refl _ _) (Nat.le_refl _) ?_; intro v110 w27 ho28 hb hg_ hnew_; clear hg_ hnew_; (first | rw [← Ny109.out] at ho28 | (simp only [Int.reduceToNat] at ho28; rw [← Ny109.out] at ho28)); have n0_ := Aside0.mk (Kd.R_below (by (with_reducible repeat (first | apply Kd.R_alloc | apply Kd.R_drewN | apply Kd.R_drew)); exact HO108.out) hb); have n1_ := Aside0.mk (Kd.R_lower ho28 (below_size (by repeat (first | (with_reducible first | exact HB.out | apply below_alloc | apply pw_below_drewN | apply below_drew1) | exact HB.out)))); have n2_ := Aside0.mk (below_step (by repeat (first | (with_reducible first | exact HB.out | apply below_alloc | apply pw_below_drewN | apply below_drew1) | exact HB.out)) hb); clear HO108; clear HB; have HO108 := n0_; have HO111 := n1_; have HB := n2_; clear n0_ n1_ n2_; clear hb ho28; have hcv29 := own_string (P := Tryz.prog) Tryz.underlying37 Tryz.underlying5 Tryz.underlying9 (Kd.own_of_R HO111.out)) | ((with_reducible refine gate_callee (f := 39) rfl ?_); refine goesL_ (some 24) rfl rfl Tryz.func39 (by kernel_rfl) rfl #[.string (strOfNums y109)] rfl (by (try simp only [List.map_toArray, List.map_cons, List.map_nil]); first | done | rfl | (simp only [List.length_drop, List.length_take]; rfl)) ?_; (with_reducible refine (audit_Schemes.calls k (strOfNums y109) t112 t113 _ (tabs_below HT.out (by repeat (first | (with_reducible first | exact HB.out | apply below_alloc | apply pw_below_drewN | apply below_drew1) | exact HB.out))) A5.out).mono ?_); rintro e w30 ⟨v114, rfl, ho0, hb⟩; refine ⟨_, rfl, ?_⟩; have n0_ := Aside0.mk (Kd.R_elder' (by (with_reducible repeat (first | apply Kd.R_alloc | apply Kd.R_drewN | apply Kd.R_drew)); exact HO108.out) (Kd.R_base ho0) hb); have n1_ := Aside0.mk (Kd.R_below (by (with_reducible repeat (first | apply Kd.R_alloc | apply Kd.R_drewN | apply Kd.R_drew)); exact HO111.out) hb); have n2_ := Aside0.mk (Kd.R_lower (Kd.R_new' ho0 (Kd.R_lt (by (with_reducible repeat (first | apply Kd.R_alloc | apply Kd.R_drewN | apply Kd.R_drew)); exact HO108.out))) (below_size (by repeat (first | (with_reducible first | exact HB.out | apply below_alloc | apply pw_below_drewN | apply below_drew1) | exact HB.out)))); have n3_ := Aside0.mk (below_step (by repeat (first | (with_reducible first | exact HB.out | apply below_alloc | apply pw_below_drewN | apply below_drew1) | exact HB.out)) hb); clear HO108; clear HO111; clear HB; have HO108 := n0_; have HO111 := n1_; have HO115 := n2_; have HB := n3_; clear n0_ n1_ n2_ n3_; (try clear hb); (try clear hb2); (try clear hk); (try clear hi); (try clear ho0)) | (go_at_call 21; (with_reducible refine (stolelaw0_Num.calls t102 t116 _ A7.out).mono ?_); rintro e w' ⟨rfl, ⟨nd, rfl⟩⟩) | (go_at_call 21; (with_reducible refine (stolelaw0_Num.calls t104 t117 _ A17.out).mono ?_); rintro e w' ⟨rfl, ⟨nd, rfl⟩⟩) | ((with_reducible refine gate_dst (N := 44) rfl ?_); (try (refine gate_guard (by rfl) ?_; dsimp only)); refine Kd.R_lit Kd.string _ 9 ?hg (N := 44) ?hd (xs := ([(⟨#[104, 116, 116, 112]⟩ : ByteArray), (⟨#[106, 97, 118, 97, 115, 99, 114, 105, 112, 116]⟩ : ByteArray)] : List ByteArray)) (inner := [.string (⟨#[104, 116, 116, 112]⟩ : ByteArray), .string (⟨#[106, 97, 118, 97, 115, 99, 114, 105, 112, 116]⟩ : ByteArray)]) (ok := fun _ => True) (okp := fun _ => True) ?hr ?hp (fun _ hk => hk) trivial (Below.refl _ _) (Nat.le_refl _) (by simp) ?_; (case hd => rfl); (case hg => rfl); (case hr => first | (go_simp; done) | (go_simp; rfl)); (case hp => exact (Reps.one (show Kd.M Kd.string _ _ _ (⟨#[104, 116, 116, 112]⟩ : ByteArray) [.string (⟨#[104, 116, 116, 112]⟩ : ByteArray)] from rfl) (Reps.one (show Kd.M Kd.string _ _ _ (⟨#[106, 97, 118, 97, 115, 99, 114, 105, 112, 116]⟩ : ByteArray) [.string (⟨#[106, 97, 118, 97, 115, 99, 114, 105, 112, 116]⟩ : ByteArray)] from rfl) (Reps.none _ _)))); intro v119 w31 ho32 hb hg_ hnew_; clear hg_ hnew_; (first | rw [← Ny118.out] at ho32 | (simp only [Int.reduceToNat] at ho32; rw [← Ny118.out] at ho32)); have n0_ := Aside0.mk (Kd.R_elder' (by (with_reducible repeat (first | apply Kd.R_alloc | apply Kd.R_drewN | apply Kd.R_drew)); exact HO108.out) (Kd.R_base ho32) hb); have n1_ := Aside0.mk (Kd.R_below (by (with_reducible repeat (first | apply Kd.R_alloc | apply Kd.R_drewN | apply Kd.R_drew)); exact HO111.out) hb); have n2_ := Aside0.mk (Kd.R_elder' (by (with_reducible repeat (first | apply Kd.R_alloc | apply Kd.R_drewN | apply Kd.R_drew)); exact HO115.out) (Kd.R_base ho32) hb); have n3_ := Aside0.mk (Kd.R_lower (Kd.R_new' (Kd.R_new' ho32 (Kd.R_lt (by (with_reducible repeat (first | apply Kd.R_alloc | apply Kd.R_drewN | apply Kd.R_drew)); exact HO108.out))) (Kd.R_lt (by (with_reducible repeat (first | apply Kd.R_alloc | apply Kd.R_drewN | apply Kd.R_drew)); exact HO115.out))) (below_size (by repeat (first | (with_reducible first | exact HB.out | apply below_alloc | apply pw_below_drewN | apply below_drew1) | exact HB.out)))); have n4_ := Aside0.mk (below_step (by repeat (first | (with_reducible first | exact HB.out | apply below_alloc | apply pw_below_drewN | apply below_drew1) | exact HB.out)) hb); clear HO108; clear HO111; clear HO115; clear HB; have HO108 := n0_; have HO111 := n1_; have HO115 := n2_; have HO120 := n3_; have HB := n4_; clear n0_ n1_ n2_ n3_ n4_; clear hb ho32; obtain ⟨Ao33, co33, eo33⟩ := Kd.R_slice HO108.out; subst eo33; obtain ⟨Ao34, co34, eo34⟩ := Kd.R_slice HO120.out; subst eo34) | (go_at_call 34; (with_reducible refine (stolelaw0_SameTexts.calls k _ _ t105 _ _ y118 true _ ?side1 ?side2 ?side3 ?side4 A19.out).mono ?_); (case side1 => repeat (first | exact (Kd.R_reads' HO108.out).2.2 | (with_reducible refine Kd.C_alloc ?_ _) | (with_reducible refine Kd.C_drewN ?_ _) | (with_reducible refine Kd.C_drew ?_))); (case side2 => exact (Kd.R_reads' HO108.out).2.1); (case side3 => repeat (first | exact (Kd.R_reads' HO120.out).2.2 | (with_reducible refine Kd.C_alloc ?_ _) | (with_reducible refine Kd.C_drewN ?_ _) | (with_reducible refine Kd.C_drew ?_))); (case side4 => exact (Kd.R_reads' HO120.out).2.1); rintro e w' ⟨rfl, ⟨nd, rfl⟩⟩) | (go_at_call 21; (with_reducible refine (stolelaw0_Num.calls t106 t122 _ A21.out).mono ?_); rintro e w' ⟨rfl, ⟨nd, rfl⟩⟩) | (go_at_call 21; (with_reducible refine (stolelaw0_Num.calls t113 t123 _ A23.out).mono ?_); rintro e w' ⟨rfl, ⟨nd, rfl⟩⟩))
        go_ret
        exact ⟨by first | rfl | (simp [errW_none, errW_some] <;> rfl) | (simp [*, errW_none, errW_some] <;> rfl), by repeat (first | (with_reducible first | exact HB.out | apply below_alloc | apply pw_below_drewN | apply below_drew1) | exact HB.out)⟩
       ·rw [if_neg c22] at H
        have c22b0 : (t122 == 0) = false := beq_eq_false_iff_ne.mpr c22
        have c22b1 : (t122 != 0) = true := bne_iff_ne.mpr c22
        obtain rfl := Option.some.inj H
        exact absurd hr (by simp)
      ·replace c20 := Bool.eq_false_iff.mpr c20
       subst c20
       have H1 : (some false) = some r := by rw [if_neg (show ¬ (false = true) by decide)] at H; exact H
       clear H
       have H := H1
       clear H1
       obtain rfl := Option.some.inj H
       exact absurd hr (by simp)
     ·rw [if_neg c18] at H
      have c18b0 : (t117 == 0) = false := beq_eq_false_iff_ne.mpr c18
      have c18b1 : (t117 != 0) = true := bne_iff_ne.mpr c18
      obtain rfl := Option.some.inj H
      exact absurd hr (by simp)
   ·rw [if_neg c8] at H
    have c8b0 : (t116 == 0) = false := beq_eq_false_iff_ne.mpr c8
    have c8b1 : (t116 != 0) = true := bne_iff_ne.mpr c8
    obtain rfl := Option.some.inj H
    exact absurd hr (by simp)
  ·replace c6 := Bool.eq_false_iff.mpr c6
   subst c6
   have H1 : (some false) = some r := by rw [if_neg (show ¬ (false = true) by decide)] at H; exact H
   clear H
   have H := H1
   clear H1
   obtain rfl := Option.some.inj H
   exact absurd hr (by simp)
 ·rw [if_neg c4] at H
  exact absurd H (by simp)
/-! ### stolelaw24_AuditTexts: function 10 -/
def stolelaw24_AuditTexts.j0 : Nat → Bool → Bool → Bool → Int → Bool → Int → Bool → Int → Bool → Option (Bool)
 | 0, _, _, _, _, _, _, _, _, _ => none
 | k + 1, x7, x9, x11, x12, x13, x14, x15, x16, x56 => if x56 = true then (some true) else ((stolelaw0_Num.f x12).bind fun t137 => (if t137 = 0 then ((stolelaw0_Num.f x14).bind fun t138 => (if t138 = 0 then ((stolelaw0_Num.f x16).bind fun t139 => (if t139 = 0 then (if x15 = true then (if (x13 == x7) = true then (if x7 = true then (if x9 = true then (if x11 = true then (some true) else (some false)) else (some (!x11))) else (some true)) else (some false)) else (some false)) else (some false))) else (some false))) else (some false)))
def stolelaw24_AuditTexts.f (k : Nat) (a0 : ByteArray) (a1 : ByteArray) (a2 : ByteArray) : Option (Bool) := (stolelaw24_awake.f k).bind fun t124 => (if t124 = true then ((audit_Alike.f a0 a1).bind fun bt125 => ((audit_Alike.f a1 a2).bind fun bt127 => ((audit_Alike.f a0 a2).bind fun bt129 => ((audit_Alike.f a1 a0).bind fun bt131 => ((audit_Alike.f a0 a0).bind fun bt133 => ((stolelaw0_Num.f bt125.2).bind fun t135 => (if t135 = 0 then ((stolelaw0_Num.f bt127.2).bind fun t136 => (stolelaw24_AuditTexts.j0 k bt125.1 bt127.1 bt129.1 bt129.2 bt131.1 bt131.2 bt133.1 bt133.2 (t136 != 0))) else (stolelaw24_AuditTexts.j0 k bt125.1 bt127.1 bt129.1 bt129.2 bt131.1 bt131.2 bt133.1 bt133.2 true)))))))) else (some false))
theorem stolelaw24_AuditTexts.mono_l : ∀ k, (∀ y0 y1 y2 y3 y4 y5 y6 y7 y8, LeO (stolelaw24_AuditTexts.j0 k y0 y1 y2 y3 y4 y5 y6 y7 y8) (stolelaw24_AuditTexts.j0 (k + 1) y0 y1 y2 y3 y4 y5 y6 y7 y8))
 | 0 => fun _ _ _ _ _ _ _ _ _ r h => by simp [stolelaw24_AuditTexts.j0] at h
 | k + 1 => by
  have ih0 := stolelaw24_AuditTexts.mono_l k
  ·intro y0 y1 y2 y3 y4 y5 y6 y7 y8
   unfold stolelaw24_AuditTexts.j0
   repeat' first
   | (with_reducible exact ih0 _ _ _ _ _ _ _ _ _)
   | (with_reducible exact stolelaw24_awake.mono _)
   | (with_reducible exact LeO.refl _)
   | (with_reducible exact LeO.none _)
   | (with_reducible refine LeO.ite ?_ ?_)
   | (with_reducible refine LeO.bind ?_ (fun _ => ?_))
   | exact ih0 _ _ _ _ _ _ _ _ _
   | exact stolelaw24_awake.mono _
   | exact LeO.none _
   | refine LeO.ite ?_ ?_
   | refine LeO.bind ?_ (fun _ => ?_)
theorem stolelaw24_AuditTexts.mono : ∀ a0 a1 a2 k, LeO (stolelaw24_AuditTexts.f k a0 a1 a2) (stolelaw24_AuditTexts.f (k + 1) a0 a1 a2) := by
 intro a0 a1 a2 k
 have ih0 := stolelaw24_AuditTexts.mono_l k
 unfold stolelaw24_AuditTexts.f
 repeat' first
   | (with_reducible exact ih0 _ _ _ _ _ _ _ _ _)
   | (with_reducible exact stolelaw24_awake.mono _)
   | (with_reducible exact LeO.refl _)
   | (with_reducible exact LeO.none _)
   | (with_reducible refine LeO.ite ?_ ?_)
   | (with_reducible refine LeO.bind ?_ (fun _ => ?_))
   | exact ih0 _ _ _ _ _ _ _ _ _
   | exact stolelaw24_awake.mono _
   | exact LeO.none _
   | refine LeO.ite ?_ ?_
   | refine LeO.bind ?_ (fun _ => ?_)
set_option maxHeartbeats 8000000 in
set_option maxRecDepth 100000 in
theorem stolelaw24_AuditTexts.calls (k : Nat) (a0 : ByteArray) (a1 : ByteArray) (a2 : ByteArray) (r : Bool) (w : World) (hT : Tabs w) (h : stolelaw24_AuditTexts.f k a0 a1 a2 = some r) (hr : r = true) :
  Calls Tryz.prog 10 #[.string a0, .string a1, .string a2] w fun e w' => e = .returned (.bool r) ∧ Below w.heap.size w w' := by
 have HT := Aside0.mk hT
 clear hT
 have HB := Aside0.mk (Below.refl w.heap.size w)
 have H : ((stolelaw24_awake.f k).bind fun t124 => (if t124 = true then ((audit_Alike.f a0 a1).bind fun bt125 => ((audit_Alike.f a1 a2).bind fun bt127 => ((audit_Alike.f a0 a2).bind fun bt129 => ((audit_Alike.f a1 a0).bind fun bt131 => ((audit_Alike.f a0 a0).bind fun bt133 => ((stolelaw0_Num.f bt125.2).bind fun t135 => (if t135 = 0 then ((stolelaw0_Num.f bt127.2).bind fun t136 => (stolelaw24_AuditTexts.j0 k bt125.1 bt127.1 bt129.1 bt129.2 bt131.1 bt131.2 bt133.1 bt133.2 (t136 != 0))) else (stolelaw24_AuditTexts.j0 k bt125.1 bt127.1 bt129.1 bt129.2 bt131.1 bt131.2 bt133.1 bt133.2 true)))))))) else (some false))) = some r := h
 clear h
 replace H := Option.bind_eq_some_iff.mp H
 obtain ⟨t124, A40, H⟩ := H
 replace H : (if t124 = true then ((audit_Alike.f a0 a1).bind fun bt125 => ((audit_Alike.f a1 a2).bind fun bt127 => ((audit_Alike.f a0 a2).bind fun bt129 => ((audit_Alike.f a1 a0).bind fun bt131 => ((audit_Alike.f a0 a0).bind fun bt133 => ((stolelaw0_Num.f bt125.2).bind fun t135 => (if t135 = 0 then ((stolelaw0_Num.f bt127.2).bind fun t136 => (stolelaw24_AuditTexts.j0 k bt125.1 bt127.1 bt129.1 bt129.2 bt131.1 bt131.2 bt133.1 bt133.2 (t136 != 0))) else (stolelaw24_AuditTexts.j0 k bt125.1 bt127.1 bt129.1 bt129.2 bt131.1 bt131.2 bt133.1 bt133.2 true)))))))) else (some false)) = some r := H
 have A4 := Aside0.mk A40
 clear A40
 by_cases c5 : t124 = true
 ·subst c5
  have H1 : ((audit_Alike.f a0 a1).bind fun bt125 => ((audit_Alike.f a1 a2).bind fun bt127 => ((audit_Alike.f a0 a2).bind fun bt129 => ((audit_Alike.f a1 a0).bind fun bt131 => ((audit_Alike.f a0 a0).bind fun bt133 => ((stolelaw0_Num.f bt125.2).bind fun t135 => (if t135 = 0 then ((stolelaw0_Num.f bt127.2).bind fun t136 => (stolelaw24_AuditTexts.j0 k bt125.1 bt127.1 bt129.1 bt129.2 bt131.1 bt131.2 bt133.1 bt133.2 (t136 != 0))) else (stolelaw24_AuditTexts.j0 k bt125.1 bt127.1 bt129.1 bt129.2 bt131.1 bt131.2 bt133.1 bt133.2 true)))))))) = some r := by rw [if_pos rfl] at H; exact H
  clear H
  have H := H1
  clear H1
  replace H := Option.bind_eq_some_iff.mp H
  obtain ⟨⟨t125, t126⟩, A60, H⟩ := H
  replace H : ((audit_Alike.f a1 a2).bind fun bt127 => ((audit_Alike.f a0 a2).bind fun bt129 => ((audit_Alike.f a1 a0).bind fun bt131 => ((audit_Alike.f a0 a0).bind fun bt133 => ((stolelaw0_Num.f t126).bind fun t135 => (if t135 = 0 then ((stolelaw0_Num.f bt127.2).bind fun t136 => (stolelaw24_AuditTexts.j0 k t125 bt127.1 bt129.1 bt129.2 bt131.1 bt131.2 bt133.1 bt133.2 (t136 != 0))) else (stolelaw24_AuditTexts.j0 k t125 bt127.1 bt129.1 bt129.2 bt131.1 bt131.2 bt133.1 bt133.2 true))))))) = some r := H
  have A6 := Aside0.mk A60
  clear A60
  replace H := Option.bind_eq_some_iff.mp H
  obtain ⟨⟨t127, t128⟩, A70, H⟩ := H
  replace H : ((audit_Alike.f a0 a2).bind fun bt129 => ((audit_Alike.f a1 a0).bind fun bt131 => ((audit_Alike.f a0 a0).bind fun bt133 => ((stolelaw0_Num.f t126).bind fun t135 => (if t135 = 0 then ((stolelaw0_Num.f t128).bind fun t136 => (stolelaw24_AuditTexts.j0 k t125 t127 bt129.1 bt129.2 bt131.1 bt131.2 bt133.1 bt133.2 (t136 != 0))) else (stolelaw24_AuditTexts.j0 k t125 t127 bt129.1 bt129.2 bt131.1 bt131.2 bt133.1 bt133.2 true)))))) = some r := H
  have A7 := Aside0.mk A70
  clear A70
  replace H := Option.bind_eq_some_iff.mp H
  obtain ⟨⟨t129, t130⟩, A80, H⟩ := H
  replace H : ((audit_Alike.f a1 a0).bind fun bt131 => ((audit_Alike.f a0 a0).bind fun bt133 => ((stolelaw0_Num.f t126).bind fun t135 => (if t135 = 0 then ((stolelaw0_Num.f t128).bind fun t136 => (stolelaw24_AuditTexts.j0 k t125 t127 t129 t130 bt131.1 bt131.2 bt133.1 bt133.2 (t136 != 0))) else (stolelaw24_AuditTexts.j0 k t125 t127 t129 t130 bt131.1 bt131.2 bt133.1 bt133.2 true))))) = some r := H
  have A8 := Aside0.mk A80
  clear A80
  replace H := Option.bind_eq_some_iff.mp H
  obtain ⟨⟨t131, t132⟩, A90, H⟩ := H
  replace H : ((audit_Alike.f a0 a0).bind fun bt133 => ((stolelaw0_Num.f t126).bind fun t135 => (if t135 = 0 then ((stolelaw0_Num.f t128).bind fun t136 => (stolelaw24_AuditTexts.j0 k t125 t127 t129 t130 t131 t132 bt133.1 bt133.2 (t136 != 0))) else (stolelaw24_AuditTexts.j0 k t125 t127 t129 t130 t131 t132 bt133.1 bt133.2 true)))) = some r := H
  have A9 := Aside0.mk A90
  clear A90
  replace H := Option.bind_eq_some_iff.mp H
  obtain ⟨⟨t133, t134⟩, A100, H⟩ := H
  replace H : ((stolelaw0_Num.f t126).bind fun t135 => (if t135 = 0 then ((stolelaw0_Num.f t128).bind fun t136 => (stolelaw24_AuditTexts.j0 k t125 t127 t129 t130 t131 t132 t133 t134 (t136 != 0))) else (stolelaw24_AuditTexts.j0 k t125 t127 t129 t130 t131 t132 t133 t134 true))) = some r := H
  have A10 := Aside0.mk A100
  clear A100
  have HC11 := Aside0.mk H
  clear H
  go_enter Tryz.func10, Tryz.ntmps10
  go_upto_region 8 with (first | ((with_reducible refine gate_callee (f := 41) rfl ?_); refine goesL_ (some 17) rfl rfl Tryz.func41 (by kernel_rfl) rfl #[] rfl (by (try simp only [List.map_toArray, List.map_cons, List.map_nil]); first | done | rfl | (simp only [List.length_drop, List.length_take]; rfl)) ?_; (with_reducible refine (stolelaw24_awake.calls k  true _ (tabs_below HT.out (by repeat (first | (with_reducible first | exact HB.out | apply below_alloc | apply pw_below_drewN | apply below_drew1) | exact HB.out))) A4.out rfl).mono ?_); rintro e w12 ⟨rfl, hb⟩; refine ⟨_, rfl, ?_⟩; have n0_ := Aside0.mk (below_step (by repeat (first | (with_reducible first | exact HB.out | apply below_alloc | apply pw_below_drewN | apply below_drew1) | exact HB.out)) hb); clear HB; have HB := n0_; clear n0_; (try clear hb); (try clear hb2); (try clear hk); (try clear hi)) | ((with_reducible refine gate_callee (f := 37) rfl ?_); refine goesL_ (some 22) rfl rfl Tryz.func37 (by kernel_rfl) rfl #[.string a0, .string a1] rfl (by (try simp only [List.map_toArray, List.map_cons, List.map_nil]); first | done | rfl | (simp only [List.length_drop, List.length_take]; rfl)) ?_; (with_reducible refine (audit_Alike.calls a0 a1 t125 t126 _ (tabs_below HT.out (by repeat (first | (with_reducible first | exact HB.out | apply below_alloc | apply pw_below_drewN | apply below_drew1) | exact HB.out))) A6.out).mono ?_); rintro e w13 ⟨rfl, hb⟩; refine ⟨_, rfl, ?_⟩; have n0_ := Aside0.mk (below_step (by repeat (first | (with_reducible first | exact HB.out | apply below_alloc | apply pw_below_drewN | apply below_drew1) | exact HB.out)) hb); clear HB; have HB := n0_; clear n0_; (try clear hb); (try clear hb2); (try clear hk); (try clear hi)) | ((with_reducible refine gate_callee (f := 37) rfl ?_); refine goesL_ (some 28) rfl rfl Tryz.func37 (by kernel_rfl) rfl #[.string a1, .string a2] rfl (by (try simp only [List.map_toArray, List.map_cons, List.map_nil]); first | done | rfl | (simp only [List.length_drop, List.length_take]; rfl)) ?_; (with_reducible refine (audit_Alike.calls a1 a2 t127 t128 _ (tabs_below HT.out (by repeat (first | (with_reducible first | exact HB.out | apply below_alloc | apply pw_below_drewN | apply below_drew1) | exact HB.out))) A7.out).mono ?_); rintro e w14 ⟨rfl, hb⟩; refine ⟨_, rfl, ?_⟩; have n0_ := Aside0.mk (below_step (by repeat (first | (with_reducible first | exact HB.out | apply below_alloc | apply pw_below_drewN | apply below_drew1) | exact HB.out)) hb); clear HB; have HB := n0_; clear n0_; (try clear hb); (try clear hb2); (try clear hk); (try clear hi)) | ((with_reducible refine gate_callee (f := 37) rfl ?_); refine goesL_ (some 34) rfl rfl Tryz.func37 (by kernel_rfl) rfl #[.string a0, .string a2] rfl (by (try simp only [List.map_toArray, List.map_cons, List.map_nil]); first | done | rfl | (simp only [List.length_drop, List.length_take]; rfl)) ?_; (with_reducible refine (audit_Alike.calls a0 a2 t129 t130 _ (tabs_below HT.out (by repeat (first | (with_reducible first | exact HB.out | apply below_alloc | apply pw_below_drewN | apply below_drew1) | exact HB.out))) A8.out).mono ?_); rintro e w15 ⟨rfl, hb⟩; refine ⟨_, rfl, ?_⟩; have n0_ := Aside0.mk (below_step (by repeat (first | (with_reducible first | exact HB.out | apply below_alloc | apply pw_below_drewN | apply below_drew1) | exact HB.out)) hb); clear HB; have HB := n0_; clear n0_; (try clear hb); (try clear hb2); (try clear hk); (try clear hi)) | ((with_reducible refine gate_callee (f := 37) rfl ?_); refine goesL_ (some 40) rfl rfl Tryz.func37 (by kernel_rfl) rfl #[.string a1, .string a0] rfl (by (try simp only [List.map_toArray, List.map_cons, List.map_nil]); first | done | rfl | (simp only [List.length_drop, List.length_take]; rfl)) ?_; (with_reducible refine (audit_Alike.calls a1 a0 t131 t132 _ (tabs_below HT.out (by repeat (first | (with_reducible first | exact HB.out | apply below_alloc | apply pw_below_drewN | apply below_drew1) | exact HB.out))) A9.out).mono ?_); rintro e w16 ⟨rfl, hb⟩; refine ⟨_, rfl, ?_⟩; have n0_ := Aside0.mk (below_step (by repeat (first | (with_reducible first | exact HB.out | apply below_alloc | apply pw_below_drewN | apply below_drew1) | exact HB.out)) hb); clear HB; have HB := n0_; clear n0_; (try clear hb); (try clear hb2); (try clear hk); (try clear hi)) | ((with_reducible refine gate_callee (f := 37) rfl ?_); refine goesL_ (some 46) rfl rfl Tryz.func37 (by kernel_rfl) rfl #[.string a0, .string a0] rfl (by (try simp only [List.map_toArray, List.map_cons, List.map_nil]); first | done | rfl | (simp only [List.length_drop, List.length_take]; rfl)) ?_; (with_reducible refine (audit_Alike.calls a0 a0 t133 t134 _ (tabs_below HT.out (by repeat (first | (with_reducible first | exact HB.out | apply below_alloc | apply pw_below_drewN | apply below_drew1) | exact HB.out))) A10.out).mono ?_); rintro e w17 ⟨rfl, hb⟩; refine ⟨_, rfl, ?_⟩; have n0_ := Aside0.mk (below_step (by repeat (first | (with_reducible first | exact HB.out | apply below_alloc | apply pw_below_drewN | apply below_drew1) | exact HB.out)) hb); clear HB; have HB := n0_; clear n0_; (try clear hb); (try clear hb2); (try clear hk); (try clear hi)))
  (try simp only [Act.put, zA, zZ, zS])
  go_cut [56] (fun v56 wc => ∃ (kq : Nat) (x56_10 : Bool), v56 = .bool x56_10 ∧ Aside0 (stolelaw24_AuditTexts.j0 kq t125 t127 t129 t130 t131 t132 t133 t134 x56_10 = some r) ∧ Aside0 (kq ≤ k) ∧ Aside0 (Below w.heap.size w wc))
  case first =>
   have H := HC11.out
   clear HC11
   replace H := Option.bind_eq_some_iff.mp H
   obtain ⟨t135, A180, H⟩ := H
   replace H : (if t135 = 0 then ((stolelaw0_Num.f t128).bind fun t136 => (stolelaw24_AuditTexts.j0 k t125 t127 t129 t130 t131 t132 t133 t134 (t136 != 0))) else (stolelaw24_AuditTexts.j0 k t125 t127 t129 t130 t131 t132 t133 t134 true)) = some r := H
   have A18 := Aside0.mk A180
   clear A180
   by_cases c19 : t135 = 0
   ·rw [if_pos c19] at H
    have c19b0 : (t135 == 0) = true := beq_iff_eq.mpr c19
    have c19b1 : (t135 != 0) = false := bne_eq_false_iff_eq.mpr c19
    clear c19
    (first | rw [c19b0] | (simp only [i64_w, i32_w]; rw [c19b0]) | skip)
    replace H := Option.bind_eq_some_iff.mp H
    obtain ⟨t136, A200, H⟩ := H
    replace H : (stolelaw24_AuditTexts.j0 k t125 t127 t129 t130 t131 t132 t133 t134 (t136 != 0)) = some r := H
    have A20 := Aside0.mk A200
    clear A200
    have H' := Aside0.mk H
    clear H
    go_wp2_with (first | ((with_reducible refine gate_callee (f := 21) rfl ?_); refine goesL_ (some 50) rfl rfl Tryz.func21 (by kernel_rfl) rfl #[.int .i64 t126] rfl (by (try simp only [List.map_toArray, List.map_cons, List.map_nil]); first | done | rfl | (simp only [List.length_drop, List.length_take]; rfl)) ?_; (with_reducible refine (stolelaw0_Num.calls t126 t135 _ A18.out).mono ?_); rintro e w' ⟨rfl, ⟨nd, rfl⟩⟩; refine ⟨_, rfl, ?_⟩) | (go_at_call 21; (with_reducible refine (stolelaw0_Num.calls t128 t136 _ A20.out).mono ?_); rintro e w' ⟨rfl, ⟨nd, rfl⟩⟩))
    go_meet
    case rel => exact ⟨_, ((t136 != 0)), (by first | rfl | (simp; done) | (simp [*]; done)), H', ⟨by first | omega | exact Nat.le_refl _⟩, ⟨by repeat (first | (with_reducible first | exact HB.out | apply below_alloc | apply pw_below_drewN | apply below_drew1) | exact HB.out)⟩⟩
   ·rw [if_neg c19] at H
    have c19b0 : (t135 == 0) = false := beq_eq_false_iff_ne.mpr c19
    have c19b1 : (t135 != 0) = true := bne_iff_ne.mpr c19
    (first | rw [c19b0] | (simp only [i64_w, i32_w]; rw [c19b0]) | skip)
    have H' := Aside0.mk H
    clear H
    go_wp2_with (first | ((with_reducible refine gate_callee (f := 21) rfl ?_); refine goesL_ (some 50) rfl rfl Tryz.func21 (by kernel_rfl) rfl #[.int .i64 t126] rfl (by (try simp only [List.map_toArray, List.map_cons, List.map_nil]); first | done | rfl | (simp only [List.length_drop, List.length_take]; rfl)) ?_; (with_reducible refine (stolelaw0_Num.calls t126 t135 _ A18.out).mono ?_); rintro e w' ⟨rfl, ⟨nd, rfl⟩⟩; refine ⟨_, rfl, ?_⟩))
    go_meet
    case rel => exact ⟨_, (true), (by first | rfl | (simp; done) | (simp [*]; done)), H', ⟨by first | omega | exact Nat.le_refl _⟩, ⟨by repeat (first | (with_reducible first | exact HB.out | apply below_alloc | apply pw_below_drewN | apply below_drew1) | exact HB.out)⟩⟩
  case rest =>
   clear HC11
   try clear c1
   try clear c2
   try clear p2
   try clear c3
   try clear c4
   try clear c5
   try clear c10
   try clear c19
   try clear c19b0
   try clear c19b1
   obtain ⟨kq, x56_10, rfl, HA, HJ10, HB⟩ := hcut
   cases kq with
   | zero => exact absurd HA.out (by simp [stolelaw24_AuditTexts.j0])
   | succ kj10 =>
    have H := HA.out
    clear HA
    simp only [stolelaw24_AuditTexts.j0] at H
    by_cases c21 : x56_10 = true
    ·subst c21
     have H1 : (some true) = some r := by rw [if_pos rfl] at H; exact H
     clear H
     have H := H1
     clear H1
     obtain rfl := Option.some.inj H
     go_wp2
     go_ret
     exact ⟨by first | rfl | (simp [errW_none, errW_some] <;> rfl) | (simp [*, errW_none, errW_some] <;> rfl), by repeat (first | (with_reducible first | exact HB.out | apply below_alloc | apply pw_below_drewN | apply below_drew1) | exact HB.out)⟩
    ·replace c21 := Bool.eq_false_iff.mpr c21
     subst c21
     have H1 : ((stolelaw0_Num.f t130).bind fun t137 => (if t137 = 0 then ((stolelaw0_Num.f t132).bind fun t138 => (if t138 = 0 then ((stolelaw0_Num.f t134).bind fun t139 => (if t139 = 0 then (if t133 = true then (if (t131 == t125) = true then (if t125 = true then (if t127 = true then (if t129 = true then (some true) else (some false)) else (some (!t129))) else (some true)) else (some false)) else (some false)) else (some false))) else (some false))) else (some false))) = some r := by rw [if_neg (show ¬ (false = true) by decide)] at H; exact H
     clear H
     have H := H1
     clear H1
     replace H := Option.bind_eq_some_iff.mp H
     obtain ⟨t137, A220, H⟩ := H
     replace H : (if t137 = 0 then ((stolelaw0_Num.f t132).bind fun t138 => (if t138 = 0 then ((stolelaw0_Num.f t134).bind fun t139 => (if t139 = 0 then (if t133 = true then (if (t131 == t125) = true then (if t125 = true then (if t127 = true then (if t129 = true then (some true) else (some false)) else (some (!t129))) else (some true)) else (some false)) else (some false)) else (some false))) else (some false))) else (some false)) = some r := H
     have A22 := Aside0.mk A220
     clear A220
     by_cases c23 : t137 = 0
     ·rw [if_pos c23] at H
      have c23b0 : (t137 == 0) = true := beq_iff_eq.mpr c23
      have c23b1 : (t137 != 0) = false := bne_eq_false_iff_eq.mpr c23
      clear c23
      replace H := Option.bind_eq_some_iff.mp H
      obtain ⟨t138, A240, H⟩ := H
      replace H : (if t138 = 0 then ((stolelaw0_Num.f t134).bind fun t139 => (if t139 = 0 then (if t133 = true then (if (t131 == t125) = true then (if t125 = true then (if t127 = true then (if t129 = true then (some true) else (some false)) else (some (!t129))) else (some true)) else (some false)) else (some false)) else (some false))) else (some false)) = some r := H
      have A24 := Aside0.mk A240
      clear A240
      by_cases c25 : t138 = 0
      ·rw [if_pos c25] at H
       have c25b0 : (t138 == 0) = true := beq_iff_eq.mpr c25
       have c25b1 : (t138 != 0) = false := bne_eq_false_iff_eq.mpr c25
       clear c25
       replace H := Option.bind_eq_some_iff.mp H
       obtain ⟨t139, A260, H⟩ := H
       replace H : (if t139 = 0 then (if t133 = true then (if (t131 == t125) = true then (if t125 = true then (if t127 = true then (if t129 = true then (some true) else (some false)) else (some (!t129))) else (some true)) else (some false)) else (some false)) else (some false)) = some r := H
       have A26 := Aside0.mk A260
       clear A260
       by_cases c27 : t139 = 0
       ·rw [if_pos c27] at H
        have c27b0 : (t139 == 0) = true := beq_iff_eq.mpr c27
        have c27b1 : (t139 != 0) = false := bne_eq_false_iff_eq.mpr c27
        clear c27
        by_cases c28 : t133 = true
        ·subst c28
         have H1 : (if (t131 == t125) = true then (if t125 = true then (if t127 = true then (if t129 = true then (some true) else (some false)) else (some (!t129))) else (some true)) else (some false)) = some r := by rw [if_pos rfl] at H; exact H
         clear H
         have H := H1
         clear H1
         by_cases c29 : (t131 == t125) = true
         ·rw [if_pos c29] at H
          have c29b0 : (t131 == t125) = true := c29
          (try (have c29b1 : decide (t131 = t125) = true := by simpa using c29))
          (try (have c29b2 : (t131 == t125) = true := by simpa using c29))
          clear c29
          by_cases c30 : t125 = true
          ·subst c30
           have H1 : (if t127 = true then (if t129 = true then (some true) else (some false)) else (some (!t129))) = some r := by rw [if_pos rfl] at H; exact H
           clear H
           have H := H1
           clear H1
           by_cases c31 : t127 = true
           ·subst c31
            have H1 : (if t129 = true then (some true) else (some false)) = some r := by rw [if_pos rfl] at H; exact H
            clear H
            have H := H1
            clear H1
            by_cases c32 : t129 = true
            ·subst c32
             have H1 : (some true) = some r := by rw [if_pos rfl] at H; exact H
             clear H
             have H := H1
             clear H1
             obtain rfl := Option.some.inj H
             go_wp2_with (first | ((with_reducible refine gate_callee (f := 21) rfl ?_); refine goesL_ (some 58) rfl rfl Tryz.func21 (by kernel_rfl) rfl #[.int .i64 t130] rfl (by (try simp only [List.map_toArray, List.map_cons, List.map_nil]); first | done | rfl | (simp only [List.length_drop, List.length_take]; rfl)) ?_; (with_reducible refine (stolelaw0_Num.calls t130 t137 _ A22.out).mono ?_); rintro e w' ⟨rfl, ⟨nd, rfl⟩⟩; refine ⟨_, rfl, ?_⟩) | (go_at_call 21; (with_reducible refine (stolelaw0_Num.calls t132 t138 _ A24.out).mono ?_); rintro e w' ⟨rfl, ⟨nd, rfl⟩⟩) | (go_at_call 21; (with_reducible refine (stolelaw0_Num.calls t134 t139 _ A26.out).mono ?_); rintro e w' ⟨rfl, ⟨nd, rfl⟩⟩))
             go_ret
             exact ⟨by first | rfl | (simp [errW_none, errW_some] <;> rfl) | (simp [*, errW_none, errW_some] <;> rfl), by repeat (first | (with_reducible first | exact HB.out | apply below_alloc | apply pw_below_drewN | apply below_drew1) | exact HB.out)⟩
            ·replace c32 := Bool.eq_false_iff.mpr c32
             subst c32
             have H1 : (some false) = some r := by rw [if_neg (show ¬ (false = true) by decide)] at H; exact H
             clear H
             have H := H1
             clear H1
             obtain rfl := Option.some.inj H
             exact absurd hr (by simp)
           ·replace c31 := Bool.eq_false_iff.mpr c31
            subst c31
            have H1 : (some (!t129)) = some r := by rw [if_neg (show ¬ (false = true) by decide)] at H; exact H
            clear H
            have H := H1
            clear H1
            obtain rfl := Option.some.inj H
            go_wp2_with (first | ((with_reducible refine gate_callee (f := 21) rfl ?_); refine goesL_ (some 58) rfl rfl Tryz.func21 (by kernel_rfl) rfl #[.int .i64 t130] rfl (by (try simp only [List.map_toArray, List.map_cons, List.map_nil]); first | done | rfl | (simp only [List.length_drop, List.length_take]; rfl)) ?_; (with_reducible refine (stolelaw0_Num.calls t130 t137 _ A22.out).mono ?_); rintro e w' ⟨rfl, ⟨nd, rfl⟩⟩; refine ⟨_, rfl, ?_⟩) | (go_at_call 21; (with_reducible refine (stolelaw0_Num.calls t132 t138 _ A24.out).mono ?_); rintro e w' ⟨rfl, ⟨nd, rfl⟩⟩) | (go_at_call 21; (with_reducible refine (stolelaw0_Num.calls t134 t139 _ A26.out).mono ?_); rintro e w' ⟨rfl, ⟨nd, rfl⟩⟩))
            go_ret
            exact ⟨by first | rfl | (simp [errW_none, errW_some] <;> rfl) | (simp [*, errW_none, errW_some] <;> rfl), by repeat (first | (with_reducible first | exact HB.out | apply below_alloc | apply pw_below_drewN | apply below_drew1) | exact HB.out)⟩
          ·replace c30 := Bool.eq_false_iff.mpr c30
           subst c30
           have H1 : (some true) = some r := by rw [if_neg (show ¬ (false = true) by decide)] at H; exact H
           clear H
           have H := H1
           clear H1
           obtain rfl := Option.some.inj H
           go_wp2_with (first | ((with_reducible refine gate_callee (f := 21) rfl ?_); refine goesL_ (some 58) rfl rfl Tryz.func21 (by kernel_rfl) rfl #[.int .i64 t130] rfl (by (try simp only [List.map_toArray, List.map_cons, List.map_nil]); first | done | rfl | (simp only [List.length_drop, List.length_take]; rfl)) ?_; (with_reducible refine (stolelaw0_Num.calls t130 t137 _ A22.out).mono ?_); rintro e w' ⟨rfl, ⟨nd, rfl⟩⟩; refine ⟨_, rfl, ?_⟩) | (go_at_call 21; (with_reducible refine (stolelaw0_Num.calls t132 t138 _ A24.out).mono ?_); rintro e w' ⟨rfl, ⟨nd, rfl⟩⟩) | (go_at_call 21; (with_reducible refine (stolelaw0_Num.calls t134 t139 _ A26.out).mono ?_); rintro e w' ⟨rfl, ⟨nd, rfl⟩⟩))
           go_ret
           exact ⟨by first | rfl | (simp [errW_none, errW_some] <;> rfl) | (simp [*, errW_none, errW_some] <;> rfl), by repeat (first | (with_reducible first | exact HB.out | apply below_alloc | apply pw_below_drewN | apply below_drew1) | exact HB.out)⟩
         ·rw [if_neg c29] at H
          have c29b0 : (t131 == t125) = false := by simpa using c29
          (try (have c29b1 : decide (t131 = t125) = false := by simpa using c29))
          (try (have c29b2 : (t131 == t125) = false := by simpa using c29))
          (try (have c29b3 : ¬ (t131 = t125) := by simpa using c29))
          clear c29
          obtain rfl := Option.some.inj H
          exact absurd hr (by simp)
        ·replace c28 := Bool.eq_false_iff.mpr c28
         subst c28
         have H1 : (some false) = some r := by rw [if_neg (show ¬ (false = true) by decide)] at H; exact H
         clear H
         have H := H1
         clear H1
         obtain rfl := Option.some.inj H
         exact absurd hr (by simp)
       ·rw [if_neg c27] at H
        have c27b0 : (t139 == 0) = false := beq_eq_false_iff_ne.mpr c27
        have c27b1 : (t139 != 0) = true := bne_iff_ne.mpr c27
        obtain rfl := Option.some.inj H
        exact absurd hr (by simp)
      ·rw [if_neg c25] at H
       have c25b0 : (t138 == 0) = false := beq_eq_false_iff_ne.mpr c25
       have c25b1 : (t138 != 0) = true := bne_iff_ne.mpr c25
       obtain rfl := Option.some.inj H
       exact absurd hr (by simp)
     ·rw [if_neg c23] at H
      have c23b0 : (t137 == 0) = false := beq_eq_false_iff_ne.mpr c23
      have c23b1 : (t137 != 0) = true := bne_iff_ne.mpr c23
      obtain rfl := Option.some.inj H
      exact absurd hr (by simp)
 ·replace c5 := Bool.eq_false_iff.mpr c5
  subst c5
  have H1 : (some false) = some r := by rw [if_neg (show ¬ (false = true) by decide)] at H; exact H
  clear H
  have H := H1
  clear H1
  obtain rfl := Option.some.inj H
  exact absurd hr (by simp)
def stolelaw24_AuditTexts.Pure : Prop := ∀ (a0 : ByteArray) (a1 : ByteArray) (a2 : ByteArray), a0.size ≤ 140737488351232 → a1.size ≤ 140737488351232 → a2.size ≤ 140737488351232 → ∃ k, stolelaw24_AuditTexts.f k a0 a1 a2 = some true
theorem stolelaw24_AuditTexts.walk (P : stolelaw24_AuditTexts.Pure) (a0 : ByteArray) (a1 : ByteArray) (a2 : ByteArray) (w : World) (hT : Tabs w) (w0 : a0.size ≤ 140737488351232) (w1 : a1.size ≤ 140737488351232) (w2 : a2.size ≤ 140737488351232) :
  Calls Tryz.prog 10 #[.string a0, .string a1, .string a2] w fun e w' => e = .returned (.bool true) ∧ Below w.heap.size w w' := by
 obtain ⟨k, h⟩ := P a0 a1 a2 w0 w1 w2
 refine (stolelaw24_AuditTexts.calls k a0 a1 a2 true w hT h rfl).mono ?_
 rintro e w' ⟨rfl, hd⟩
 exact ⟨rfl, hd⟩
end Go.Proofs.YtfmcdlbbbmeolaaGreatDoor.XA
end
section
namespace Go.Proofs.YtfmcdlbbbmeolaaGreatDoor.XP
end Go.Proofs.YtfmcdlbbbmeolaaGreatDoor.XP
end
section
namespace Go.Proofs.YtfmcdlbbbmeolaaGreatDoor.P8
open Go.RowKit Go.Proofs.YtfmcdlbbbmeolaaGreatDoor.XK Go.Proofs.YtfmcdlbbbmeolaaGreatDoor.XP Go.Proofs.YtfmcdlbbbmeolaaGreatDoor.Tk Go.Proofs.YtfmcdlbbbmeolaaGreatDoor.ExtP Go.Proofs.YtfmcdlbbbmeolaaGreatDoor.Base Go.Proofs.YtfmcdlbbbmeolaaGreatDoorW.PrintWords Go.Proofs.YtfmcdlbbbmeolaaGreatDoorW.PrintLast Go.Proofs.YtfmcdlbbbmeolaaGreatDoorW.PrintMore
open Go.Proofs.YtfmcdlbbbmeolaaGreatDoor.Tr (parseF skR skS it4 tkS mayNs parse_ok parse_err skel_parse skel_f NodB toks noText tkS_noText)
set_option linter.unusedVariables false
set_option linter.unusedSimpArgs false
set_option maxRecDepth 100000
theorem parse_f (b : ByteArray) : page_Parse.f b = some (parseF b.data.toList) := by
  unfold page_Parse.f tok_Tokens.f parseF
  rw [tokens_eq]
  simp only [Option.bind_some]
  have hb := (toks_bnd b.data.toList).1
  split
  · unfold tree_Build.f
    rw [if_pos (by omega)]; rfl
  · rfl
theorem parse_long (n : Nat) (h : 65536 < n) (x : Int) : page_Parse.f (strOfNums (List.replicate n x)) = some ([], 500) := by
  rw [parse_f]
  unfold parseF tokensM
  rw [strOfNums_data, List.length_map, List.length_replicate, if_pos h]; rfl
theorem skel_nil : page_Skeleton.f [] = some (⟨#[]⟩, 800) := by
  rw [skel_f [] (by decide) (fun x hx => (by cases hx))]; rfl
def pg0 : List UInt8 := [60, 112, 32, 97, 61, 49, 62, 120, 60, 98, 62, 121, 60, 47, 98, 62, 60, 47, 112, 62, 60, 33, 113, 62]
def ns0 : List S69 := [⟨0, ⟨#[]⟩, ⟨#[]⟩, [], -1⟩, ⟨1, ⟨#[112]⟩, ⟨#[]⟩, [⟨⟨#[97]⟩, ⟨#[49]⟩⟩], 0⟩, ⟨2, ⟨#[]⟩, ⟨#[120]⟩, [], 1⟩, ⟨1, ⟨#[98]⟩, ⟨#[]⟩, [], 1⟩, ⟨2, ⟨#[]⟩, ⟨#[121]⟩, [], 3⟩, ⟨3, ⟨#[]⟩, ⟨#[113]⟩, [], 0⟩]
theorem pg0_eq : parseF pg0 = (ns0, 0) := by kernel_rfl
theorem sk0_eq : skR ns0 = ([48, 32, 101, 32, 112, 32, 97, 10, 49, 32, 101, 32, 98, 10, 48, 32, 99, 32, 113, 10], 0) := by kernel_rfl
set_option maxHeartbeats 4000000 in
theorem awake_ok : stolelaw8_awake.f 60 = some true := by
  have h1 : page_Parse.f ⟨pg0.toArray⟩ = some (ns0, 0) := by rw [parse_f]; show some (parseF pg0) = _; rw [pg0_eq]
  have h2 : page_Skeleton.f ns0 = some (⟨(skR ns0).1.toArray⟩, (skR ns0).2) := by have := skel_parse pg0; rwa [pg0_eq] at this
  rw [sk0_eq] at h2
  unfold pg0 at h1
  unfold stolelaw8_awake.f
  rw [h1, parse_long 65537 (by decide), skel_nil]
  simp only [Option.bind_some]
  rw [h2]
  decide +kernel
theorem awake_ev : Ev (fun k => stolelaw8_awake.f k) true := Ev.of (fun k => stolelaw8_awake.mono k) awake_ok
end Go.Proofs.YtfmcdlbbbmeolaaGreatDoor.P8
end
section
namespace Go.Proofs.YtfmcdlbbbmeolaaGreatDoor.P24
open Go.RowKit Go.Proofs.YtfmcdlbbbmeolaaGreatDoor.XK Go.Proofs.YtfmcdlbbbmeolaaGreatDoor.XP Go.Proofs.YtfmcdlbbbmeolaaGreatDoor.XQ Go.Proofs.YtfmcdlbbbmeolaaGreatDoor.XA Go.Proofs.YtfmcdlbbbmeolaaGreatDoor.Tk Go.Proofs.YtfmcdlbbbmeolaaGreatDoor.ExtP Go.Proofs.YtfmcdlbbbmeolaaGreatDoor.Base Go.Proofs.YtfmcdlbbbmeolaaGreatDoorW.PrintWords Go.Proofs.YtfmcdlbbbmeolaaGreatDoorW.PrintLast Go.Proofs.YtfmcdlbbbmeolaaGreatDoorW.PrintMore
open Go.Proofs.YtfmcdlbbbmeolaaGreatDoor.Tr (parseF skR skel_parse)
open Go.Proofs.YtfmcdlbbbmeolaaGreatDoor.P8 (parse_f parse_long)
set_option linter.unusedVariables false
set_option linter.unusedSimpArgs false
set_option maxRecDepth 100000
def alikeF (a b : List UInt8) : Bool × Int :=
  if (parseF a).2 = 0 then (if (parseF b).2 = 0 then ((skR (parseF a).1).1 == (skR (parseF b).1).1, 0) else (false, (parseF b).2)) else (false, (parseF a).2)
theorem alike_f (a b : ByteArray) : audit_Alike.f a b = some (alikeF a.data.toList b.data.toList) := by
  unfold audit_Alike.f alikeF
  rw [parse_f a, Option.bind_some]
  by_cases h1 : (parseF a.data.toList).2 = 0
  · rw [if_pos h1, if_pos h1, parse_f b, Option.bind_some]
    by_cases h2 : (parseF b.data.toList).2 = 0
    · rw [if_pos h2, if_pos h2, skel_parse, Option.bind_some, skel_parse, Option.bind_some]
      simp only [list_eq]
    · rw [if_neg h2, if_neg h2]
  · rw [if_neg h1, if_neg h1]
theorem schemes_f (k : Nat) (a : ByteArray) : audit_Schemes.f k a = if (parseF a.data.toList).2 = 0 then ((sOut k [] (parseF a.data.toList).1).bind fun o => some (o, 0)) else some ([], (parseF a.data.toList).2) := by
  unfold audit_Schemes.f
  rw [parse_f a, Option.bind_some]
theorem schemes_long (k n : Nat) (h : 65536 < n) (x : Int) : audit_Schemes.f k (strOfNums (List.replicate n x)) = some ([], 500) := by
  unfold audit_Schemes.f
  rw [parse_long n h x, Option.bind_some]; rfl
def pgA : List UInt8 := [60, 112, 62, 120, 60, 47, 112, 62]
def pgB : List UInt8 := [60, 112, 62, 121, 38, 108, 116, 59, 60, 47, 112, 62]
def pgC : List UInt8 := [60, 112, 62]
def pgD : List UInt8 := [60, 112, 32, 97, 62]
def pgE : List UInt8 := [60, 97, 32, 104, 114, 101, 102, 61, 39, 72, 84, 84, 80, 58, 120, 39, 62, 60, 105, 109, 103, 32, 115, 114, 99, 61, 106, 97, 118, 97, 115, 99, 114, 105, 112, 116, 58, 49, 32, 116, 105, 116, 108, 101, 61, 39, 97, 58, 98, 39, 62]
theorem ab_eq : alikeF pgA pgB = (true, 0) := by kernel_rfl
theorem cd_eq : alikeF pgC pgD = (false, 0) := by kernel_rfl
theorem e_eq : (if (parseF pgE).2 = 0 then ((sOut 60 [] (parseF pgE).1).bind fun o => some (o, (0 : Int))) else some ([], (parseF pgE).2)) = some ([⟨#[104, 116, 116, 112]⟩, ⟨#[106, 97, 118, 97, 115, 99, 114, 105, 112, 116]⟩], 0) := by kernel_rfl
set_option maxHeartbeats 4000000 in
theorem awake_ok : stolelaw24_awake.f 60 = some true := by
  have h1 : audit_Alike.f ⟨pgA.toArray⟩ ⟨pgB.toArray⟩ = some (true, 0) := by rw [alike_f]; show some (alikeF pgA pgB) = _; rw [ab_eq]
  have h2 : audit_Alike.f ⟨pgC.toArray⟩ ⟨pgD.toArray⟩ = some (false, 0) := by rw [alike_f]; show some (alikeF pgC pgD) = _; rw [cd_eq]
  have h3 : audit_Schemes.f 60 ⟨pgE.toArray⟩ = some ([⟨#[104, 116, 116, 112]⟩, ⟨#[106, 97, 118, 97, 115, 99, 114, 105, 112, 116]⟩], 0) := by rw [schemes_f]; exact e_eq
  unfold pgA pgB at h1
  unfold pgC pgD at h2
  unfold pgE at h3
  unfold stolelaw24_awake.f
  rw [h1, h2, h3, schemes_long 60 65537 (by decide)]
  decide +kernel
theorem awake_ev : Ev (fun k => stolelaw24_awake.f k) true := Ev.of (fun k => stolelaw24_awake.mono k) awake_ok
theorem ali_err (a b : List UInt8) : (alikeF a b).2 = 0 → (parseF a).2 = 0 ∧ (parseF b).2 = 0 := by
  unfold alikeF; intro h
  split at h
  · split at h
    · rename_i h1 h2; exact ⟨h1, h2⟩
    · rename_i h1 h2; exact absurd h h2
  · rename_i h1; exact absurd h h1
theorem ali_ok (a b : List UInt8) (h1 : (parseF a).2 = 0) (h2 : (parseF b).2 = 0) : alikeF a b = ((skR (parseF a).1).1 == (skR (parseF b).1).1, 0) := by
  unfold alikeF; rw [if_pos h1, if_pos h2]
theorem auditTexts_plain : ∀ (a0 a1 a2 : ByteArray), a0.size ≤ 140737488351232 → a1.size ≤ 140737488351232 → a2.size ≤ 140737488351232 → ∃ k, stolelaw24_AuditTexts.f k a0 a1 a2 = some true := by
  intro a b c _ _ _
  refine Ev.rounds ?_
  refine Ev.congr (f := fun k => _) (fun k => by rw [stolelaw24_AuditTexts.f]) ?_
  refine Ev.bind awake_ev (Ev.pos rfl ?_)
  refine Ev.bindC (alike_f a b) (Ev.bindC (alike_f b c) (Ev.bindC (alike_f a c) (Ev.bindC (alike_f b a) (Ev.bindC (alike_f a a) ?_))))
  refine Ev.bindC (s := (alikeF a.data.toList b.data.toList).2) (by unfold stolelaw0_Num.f; rfl) ?_
  by_cases h1 : (alikeF a.data.toList b.data.toList).2 = 0
  · refine Ev.pos h1 (Ev.bindC (s := (alikeF b.data.toList c.data.toList).2) (by unfold stolelaw0_Num.f; rfl) ?_)
    refine Ev.step (f := fun k => _) (fun k => by rw [stolelaw24_AuditTexts.j0]) ?_
    by_cases h2 : (alikeF b.data.toList c.data.toList).2 = 0
    · obtain ⟨ha, hb⟩ := ali_err _ _ h1
      obtain ⟨_, hc⟩ := ali_err _ _ h2
      refine Ev.neg (by rw [h2]; simp) ?_
      rw [ali_ok _ _ ha hb, ali_ok _ _ hb hc, ali_ok _ _ ha hc, ali_ok _ _ hb ha, ali_ok _ _ ha ha]
      obtain ⟨x, hx⟩ : ∃ x, (skR (parseF a.data.toList).1).1 = x := ⟨_, rfl⟩
      obtain ⟨y, hy⟩ : ∃ y, (skR (parseF b.data.toList).1).1 = y := ⟨_, rfl⟩
      obtain ⟨z, hz⟩ : ∃ z, (skR (parseF c.data.toList).1).1 = z := ⟨_, rfl⟩
      rw [hx, hy, hz]
      refine Ev.bindC (s := 0) (by unfold stolelaw0_Num.f; rfl) (Ev.pos rfl (Ev.bindC (s := 0) (by unfold stolelaw0_Num.f; rfl) (Ev.pos rfl (Ev.bindC (s := 0) (by unfold stolelaw0_Num.f; rfl) (Ev.pos rfl ?_)))))
      refine Ev.ofSome ?_
      have f1 : (y == x) = (x == y) := by rw [Bool.eq_iff_iff, beq_iff_eq, beq_iff_eq]; exact eq_comm
      have f2 : (x == x) = true := beq_iff_eq.2 rfl
      have f3 : (x == y) = true → (y == z) = true → (x == z) = true := fun h h' => by rw [beq_iff_eq] at h h' ⊢; exact h.trans h'
      have f4 : (x == y) = true → (x == z) = true → (y == z) = true := fun h h' => by rw [beq_iff_eq] at h h' ⊢; exact h.symm.trans h'
      simp only [f1, f2]
      generalize (x == y) = p at f3 f4 ⊢
      generalize (y == z) = q at f3 f4 ⊢
      generalize (x == z) = r at f3 f4 ⊢
      clear f1 f2 hx hy hz
      revert p q r
      decide
    · exact Ev.pos (by simpa using h2) (Ev.now true)
  · refine Ev.neg h1 ?_
    refine Ev.step (f := fun k => _) (fun k => by rw [stolelaw24_AuditTexts.j0]) ?_
    exact Ev.pos rfl (Ev.now true)
end Go.Proofs.YtfmcdlbbbmeolaaGreatDoor.P24
end
section
namespace Go.Proofs.YtfmcdlbbbmeolaaGreatDoor.RowAuditTexts
open Go.ChangeShapes Go.WideShapes Go.ChangeAt Go.RowKit Go.Proofs.YtfmcdlbbbmeolaaGreatDoorW.PrintWords Go.Proofs.YtfmcdlbbbmeolaaGreatDoorW.PrintLast Go.Proofs.YtfmcdlbbbmeolaaGreatDoor.ExtP
open Go.ChangeMaps (open_string shut_string)
set_option linter.unusedVariables false
theorem own : ownKnob Tryz.prog.godebug = none := by kernel_rfl
set_option maxRecDepth 100000 in
set_option maxHeartbeats 4000000 in
theorem contract (H : Type) (enc : TypeId × Value → H) (W : World) (base : Nat) (args : Array Value) (ds gs : List (DataW H)) (before : List MemPlace)
    (hval0 : ∀ (j : Nat) t v, Tryz.f10.params[j]? = some t → args[j]? = some v → Value.okWide Tryz.prog W .any base t v)
    (hW : DataW.Whole enc Tryz.prog Tryz.f10.params.toList Rows.auditTextsSpec.vars false W args.toList ds gs before)
    (hsz0 : (DataW.weightsEach Tryz.prog (Tryz.f10.params.toList ++ Rows.auditTextsSpec.plain.varTypes Tryz.prog) (ds ++ gs)).all (· ≤ reachBytes) = true)
    (hL : laidMetH Tryz.prog Rows.auditTextsRow.laid W)
    (hsh : W.ShapedOpen Tryz.prog)
    : Calls Tryz.prog 10 args W fun e W' => ∃ v, e = .returned v ∧ Rows.auditTextsSpec.post enc Tryz.prog Tryz.f10 false true false false W args v W' := by
  have hsz : (DataW.weightsEach Tryz.prog (Tryz.f10.params.toList ++ Rows.auditTextsSpec.plain.varTypes Tryz.prog) (ds ++ gs)).all (· ≤ reachBytes) = true := hsz0
  have hval : ∀ (j : Nat) t v, Tryz.f10.params[j]? = some t → args[j]? = some v → Value.okWide Tryz.prog W .any base t v := hval0
  have hW' := hW
  obtain ⟨p, q, hA0, hV, rfl, hfz, hnd⟩ := hW
  have hA : DataW.TrodAll enc Tryz.prog W 0 (fun _ => true) true Tryz.f10.params.toList args.toList ds p := hA0
  rw [Tryz.params10] at hA hval hsz
  obtain ⟨v0, vs0, d0, ds0, p0, q0, hargs, rfl, rfl, h0, r0⟩ := trodAll_cons hA
  obtain ⟨v1, vs1, d1, ds1, p1, q1, rfl, rfl, rfl, h1, r1⟩ := trodAll_cons r0
  obtain ⟨v2, vs2, d2, ds2, p2, q2, rfl, rfl, rfl, h2, r2⟩ := trodAll_cons r1
  obtain ⟨rfl, rfl, rfl⟩ := trodAll_nil r2
  obtain rfl : args = #[v0, v1, v2] := by cases args; simp_all
  obtain ⟨rfl, rfl⟩ := trodVars_none hV
  obtain ⟨a0, rfl, rfl, rfl, y0⟩ := open_string Tryz.underlying9 (hval 0 9 v0 rfl rfl) h0
  have w0 : a0.size ≤ 140737488351232 := by
    have z := sized_string hsz (j := 0) (t := 9) rfl rfl
    rw [Array.length_toList] at z
    exact z
  obtain ⟨a1, rfl, rfl, rfl, y1⟩ := open_string Tryz.underlying9 (hval 1 9 v1 rfl rfl) h1
  have w1 : a1.size ≤ 140737488351232 := by
    have z := sized_string hsz (j := 1) (t := 9) rfl rfl
    rw [Array.length_toList] at z
    exact z
  obtain ⟨a2, rfl, rfl, rfl, y2⟩ := open_string Tryz.underlying9 (hval 2 9 v2 rfl rfl) h2
  have w2 : a2.size ≤ 140737488351232 := by
    have z := sized_string hsz (j := 2) (t := 9) rfl rfl
    rw [Array.length_toList] at z
    exact z
  clear hA0 hval0 hsz0 hsz hval
  have hT : Tabs W := ⟨Tryz.laysM143.s1_3 W hsh, tabP_of_laid hL (by kernel_rfl) (by simp [Rows.auditTextsRow])⟩
  obtain ⟨k, hk⟩ := P24.auditTexts_plain a0 a1 a2 w0 w1 w2
  refine (XA.stolelaw24_AuditTexts.calls k a0 a1 a2 true W hT hk rfl).mono fun e W' ⟨he, bel0⟩ => ?_
  have bel : Below W.heap.size W W' := bel0
  subst he
  simp only [List.append_nil] at hW'
  exact ⟨_, rfl, _, _, _, [], _, [], hW', trodAll_mk1 (shut_bool Tryz.underlying4 _), (trodAll_cons_mk (shut_string Tryz.underlying9 y0) (trodAll_cons_mk (shut_string Tryz.underlying9 y1) (trodAll_cons_mk (shut_string Tryz.underlying9 y2) trodAll_mk0))), rfl, bel.frame _, fun h => by cases h⟩
theorem laid_met (os : Os) : laidMetH Tryz.prog Rows.auditTextsRow.laid ((World.laidAll Tryz.prog os Rows.auditTextsRow.laid).forCall (fun _ _ => 0) ⟨#[], #[.string ByteArray.empty, .string ByteArray.empty, .string ByteArray.empty], []⟩).memory := by
  rw [MakeChecks.laidMetH_plain _ _ _ (by kernel_rfl)]
  exact laidMet_laidAll _ (by kernel_rfl) (by kernel_rfl)
theorem reads (os : Os) {H : Type} (enc : TypeId × Value → H) : ∃ places, DataW.whole enc Tryz.prog ((World.laidAll Tryz.prog os Rows.auditTextsRow.laid).forCall (fun _ _ => 0) ⟨#[], #[.string ByteArray.empty, .string ByteArray.empty, .string ByteArray.empty], []⟩).memory Tryz.f10.params.toList Rows.auditTextsSpec.vars false (#[.string ByteArray.empty, .string ByteArray.empty, .string ByteArray.empty] : Array Value).toList 8 = some ([.lit (.string []), .lit (.string []), .lit (.string [])], [], places) :=
  ⟨[], by kernel_rfl⟩
set_option maxRecDepth 100000 in
theorem lifted (os : Os) (started : os.Started) (H : Type) (enc : TypeId × Value → H) (F : Stop.Interp) :
    ReturnsInHanded {} Tryz.checked os 10 .any ((OpenSpec.ofChange Rows.auditTextsSpec).preRow enc Tryz.prog Tryz.f10 Rows.auditTextsRow.domain false Rows.auditTextsRow.laid) (((OpenSpec.ofChange Rows.auditTextsSpec).at F).post enc Tryz.prog Tryz.f10 false true false false) := by
  obtain ⟨places, hx⟩ := reads os enc
  refine returnsInHanded_of_row (C := Tryz.checked) (s := (OpenSpec.ofChange Rows.auditTextsSpec)) own started (by kernel_rfl) Tryz.func10
    (witness_row_at (enc := enc) (C := Tryz.checked) false (World.laidAll Tryz.prog os Rows.auditTextsRow.laid) #[.string ByteArray.empty, .string ByteArray.empty, .string ByteArray.empty] (World.laidAll_os _ _ _) (by kernel_rfl) (by kernel_rfl) (by kernel_rfl)
      (OpenSpec.preRow_of_cond 8 hx (by kernel_rfl) (fun k hk => by cases hk) (by kernel_rfl) (laid_met os))) ?_
  intro W base args ds gs before hval hW hcnd hcond hsz hL hsh _
  exact contract H enc W base args ds gs before hval hW hsz hL hsh
set_option maxRecDepth 100000 in
theorem c_laid : laidOutB Tryz.pinned.checked.prog = true := by kernel_rfl
set_option maxRecDepth 100000 in
theorem c_maps : mapsRowed Tryz.pinned.checked.prog = true := by kernel_rfl
set_option maxRecDepth 100000 in
theorem c_place : (Rows.auditTextsRow.inPlace == Tryz.pinned.checked.prog.inPlace 10) = true := by kernel_rfl
set_option maxRecDepth 100000 in
theorem c_unf : (Rows.auditTextsRow.unfollowed == Tryz.pinned.checked.prog.unfollowed 10) = true := by kernel_rfl
set_option maxRecDepth 100000 in
theorem c_rec : (Rows.auditTextsRow.recurses == Tryz.pinned.checked.prog.recurses 10) = true := by kernel_rfl
set_option maxRecDepth 100000 in
theorem c_named : (Rows.auditTextsRow.named == Tryz.pinned.checked.prog.varsNamed 10) = true := by kernel_rfl
set_option maxRecDepth 100000 in
theorem closed : joinedFacts Tryz.pinned.checked.prog 10 Tryz.f10 (OpenSpec.bare (OpenSpec.ofChange Rows.auditTextsSpec)) Rows.auditTextsRow = true := by
  unfold joinedFacts
  rw [c_laid, c_maps, c_place, c_unf, c_rec, c_named]
  kernel_rfl
theorem said : Rows.AuditTextsSaid :=
  OpenClaim.holds_of_cond 10 Tryz.f10 rfl rfl rfl rfl rfl rfl rfl ⟨rfl, rfl, rfl, rfl, rfl⟩ rfl rfl rfl rfl rfl (by kernel_rfl) Tryz.func10 closed
    (of_decide_eq_true (by kernel_rfl)) (by unfold Func.isWrapper; first | (rw [if_pos (by decide +kernel)]; kernel_rfl) | (rw [if_neg (by decide +kernel)]; exact ⟨rfl, rfl⟩))
    (fun os started H enc _ F => by rw [OpenClaim.pre_eq_preRow]; exact lifted os started H enc F)
theorem plain (f : FuncId) (fn : Func) (hf : Tryz.pinned.checked.prog.funcNamed "stole/stolelaw24.AuditTexts" = some f) (hfn : Tryz.pinned.checked.prog.funcs[f]? = some fn) :
    true = Tryz.pinned.checked.prog.looks [] ∧ ∀ (j : Nat) t, fn.params[j]? = some t → Tryz.pinned.checked.prog.wantsStandIn t = false := by
  obtain rfl : f = 10 := Option.some.inj ((show Tryz.prog.funcNamed "stole/stolelaw24.AuditTexts" = some 10 by kernel_rfl).symm.trans hf) |>.symm
  obtain rfl : fn = Tryz.f10 := (Option.some.inj (Tryz.func10.symm.trans hfn)).symm
  refine ⟨by kernel_rfl, fun j t ht => ?_⟩
  rw [Tryz.params10] at ht
  have hm := Array.mem_of_getElem? ht
  have hall : (#[9, 9, 9] : Array TypeId).all (fun t => Tryz.prog.wantsStandIn t == false) = true := by kernel_rfl
  rw [Array.all_eq_true'] at hall
  exact eq_of_beq (hall t hm)
theorem proved : Rows.AuditTextsCardSaid :=
  Claim7.holds_tied_plain_at .later [] _ _ _ _ said (fun _ h => by cases h) (by kernel_rfl) (fun _ h => by cases h) auditTexts_row_tie rfl ⟨rfl, rfl⟩ (by kernel_rfl) rfl plain (by kernel_rfl)
end Go.Proofs.YtfmcdlbbbmeolaaGreatDoor.RowAuditTexts
namespace Go.Proofs.YtfmcdlbbbmeolaaGreatDoor
theorem auditTexts_holds : Rows.AuditTextsCardSaid := RowAuditTexts.proved
#print axioms auditTexts_holds
end Go.Proofs.YtfmcdlbbbmeolaaGreatDoor
end
