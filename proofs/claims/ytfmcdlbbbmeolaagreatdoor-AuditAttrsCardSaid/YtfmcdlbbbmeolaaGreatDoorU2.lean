/- Laid by xprint.py, a program of this session over the kit's print: for each Go function one Lean function of the same answers, and the walk that shows it. All of the first print, and what the print did not lay of the types. Plain lemmas on the printed functions' words (rounds, bytes): no program. tok's small functions: walked. tok's functions of a state and a byte: walked. (Laid by gen_tk2.py, a program of this session.) tok's reader: what it does, plain; what memory holds of it. tok's reader's kept: walked (the closure, slices.ContainsFunc at it). -/
import Derived.Test.YtfmcdlbbbmeolaaGreatDoorU0
import Derived.Test.YtfmcdlbbbmeolaaGreatDoorU1
import Derived.Test.YtfmcdlbbbmeolaaGreatDoorY1
import Derived.Lib.Bytealg
import Derived.Laws.BitsLemmas
import Derived.Outline
section
namespace Go.Proofs.YtfmcdlbbbmeolaaGreatDoor.XK
open Go.RowKit Go.Proofs.YtfmcdlbbbmeolaaGreatDoorW.PrintWords Go.Proofs.YtfmcdlbbbmeolaaGreatDoorW.PrintLast Go.Proofs.YtfmcdlbbbmeolaaGreatDoorW.PrintMore
attribute [local go_sem] max2_int min2_int max_two min_two max_three min_three max_four min_four   -- for this text's walks alone
set_option linter.unusedVariables false
set_option linter.unusedSimpArgs false
/-! ### stoleref5_Texts: function 32 -/
-- NOT PRINTED: function 33 (stolelaw0_SameNodes)
/-! ### stolelaw0_SameTexts: function 34 -/
def stolelaw0_SameTexts.l0 : Nat → List ByteArray → List ByteArray → Int → Option (Bool)
 | 0, _, _, _ => none
 | k + 1, x0, x1, x5 => if x5 < (x0.length : Int) then (if 0 ≤ x5 then (if x5 < (x1.length : Int) then (if (rdOf ByteArray.empty x0 x5).toList = (rdOf ByteArray.empty x1 x5).toList then (stolelaw0_SameTexts.l0 k x0 x1 (wrap64 (x5 + 1))) else (some false)) else (none)) else (none)) else (some true)
def stolelaw0_SameTexts.f (k : Nat) (l0 : List ByteArray) (l1 : List ByteArray) : Option (Bool) := if (l0.length : Int) = (l1.length : Int) then (stolelaw0_SameTexts.l0 k l0 l1 0) else (some false)
theorem stolelaw0_SameTexts.mono_l : ∀ k, (∀ y0 y1 y2, LeO (stolelaw0_SameTexts.l0 k y0 y1 y2) (stolelaw0_SameTexts.l0 (k + 1) y0 y1 y2))
 | 0 => fun _ _ _ r h => by simp [stolelaw0_SameTexts.l0] at h
 | k + 1 => by
  have ih0 := stolelaw0_SameTexts.mono_l k
  ·intro y0 y1 y2
   unfold stolelaw0_SameTexts.l0
   repeat' first
   | (with_reducible exact ih0 _ _ _)
   | (with_reducible exact LeO.refl _)
   | (with_reducible exact LeO.none _)
   | (with_reducible refine LeO.ite ?_ ?_)
   | (with_reducible refine LeO.bind ?_ (fun _ => ?_))
   | exact ih0 _ _ _
   | exact LeO.none _
   | refine LeO.ite ?_ ?_
   | refine LeO.bind ?_ (fun _ => ?_)
theorem stolelaw0_SameTexts.mono : ∀ a0 a1 k, LeO (stolelaw0_SameTexts.f k a0 a1) (stolelaw0_SameTexts.f (k + 1) a0 a1) := by
 intro a0 a1 k
 have ih0 := stolelaw0_SameTexts.mono_l k
 unfold stolelaw0_SameTexts.f
 repeat' first
   | (with_reducible exact ih0 _ _ _)
   | (with_reducible exact LeO.refl _)
   | (with_reducible exact LeO.none _)
   | (with_reducible refine LeO.ite ?_ ?_)
   | (with_reducible refine LeO.bind ?_ (fun _ => ?_))
   | exact ih0 _ _ _
   | exact LeO.none _
   | refine LeO.ite ?_ ?_
   | refine LeO.bind ?_ (fun _ => ?_)
set_option maxHeartbeats 8000000 in
set_option maxRecDepth 100000 in
theorem stolelaw0_SameTexts.calls (k : Nat) (A0 : Option Addr) (c0 : Nat) (l0 : List ByteArray) (A1 : Option Addr) (c1 : Nat) (l1 : List ByteArray) (r : Bool) (w : World) (hr0 : Kd.C Kd.string w A0 l0.length l0) (hc0 : l0.length ≤ c0) (hr1 : Kd.C Kd.string w A1 l1.length l1) (hc1 : l1.length ≤ c1) (h : stolelaw0_SameTexts.f k l0 l1 = some r) :
  Calls Tryz.prog 34 #[.slice A0 l0.length c0, .slice A1 l1.length c1] w fun e w' => e = .returned (.bool r) ∧ Drawn0 w w' := by
 have HR0 := Aside0.mk hr0
 have HC0 := Aside0.mk hc0
 clear hr0 hc0
 have HR1 := Aside0.mk hr1
 have HC1 := Aside0.mk hc1
 clear hr1 hc1
 have H : (if (l0.length : Int) = (l1.length : Int) then (stolelaw0_SameTexts.l0 k l0 l1 0) else (some false)) = some r := h
 clear h
 by_cases c3 : (l0.length : Int) = (l1.length : Int)
 ·rw [if_pos c3] at H
  have c3b0 : ((l0.length : Int) == (l1.length : Int)) = true := beq_iff_eq.mpr c3
  have c3b1 : ((l0.length : Int) != (l1.length : Int)) = false := bne_eq_false_iff_eq.mpr c3
  have c3b2 : (l0.length == l1.length) = true := by first | simpa using c3 | (simp at c3 ⊢; omega)
  clear c3
  have H' := Aside0.mk H
  clear H
  go_enter Tryz.func34, Tryz.ntmps34
  go_wp2
  repeat (go_quiet (fail); try go_wp2)
  go_loopg [5] k (fun kq v5 w' => ∃ (x5_1 : Int), v5 = .int .i64 x5_1 ∧ Aside0 (stolelaw0_SameTexts.l0 kq l0 l1 x5_1 = some r) ∧ Aside0 (kq ≤ k) ∧ Drawn0 w w')
  case atStart => exact ⟨(0), (by first | rfl | (simp; done) | (simp [*]; done)), H', ⟨Nat.le_refl _⟩, by repeat (first | exact Drawn0.refl _ | apply Drawn0.step)⟩
  case round =>
   clear H'
   try clear c1
   try clear p2
   try clear c3
   try clear c3b0
   try clear c3b1
   try clear c3b2
   obtain ⟨x5_1, rfl, HA, HK1, ⟨m1, rfl⟩⟩ := hrel
   cases gk with
   | zero => exact absurd HA.out (by simp [stolelaw0_SameTexts.l0])
   | succ k1 =>
    have H := HA.out
    clear HA
    simp only [stolelaw0_SameTexts.l0] at H
    by_cases c4 : x5_1 < (l0.length : Int)
    ·rw [if_pos c4] at H
     have c4b0 : decide (x5_1 < (l0.length : Int)) = true := decide_eq_true c4
     clear c4
     by_cases c5 : 0 ≤ x5_1
     ·rw [if_pos c5] at H
      have c5b0 : decide (0 ≤ x5_1) = true := decide_eq_true c5
      clear c5
      by_cases c6 : x5_1 < (l1.length : Int)
      ·rw [if_pos c6] at H
       have c6b0 : decide (x5_1 < (l1.length : Int)) = true := decide_eq_true c6
       clear c6
       by_cases c7 : (rdOf ByteArray.empty l0 x5_1).toList = (rdOf ByteArray.empty l1 x5_1).toList
       ·rw [if_pos c7] at H
        have c7b0 : ((rdOf ByteArray.empty l0 x5_1).toList == (rdOf ByteArray.empty l1 x5_1).toList) = true := beq_iff_eq.mpr c7
        have c7b1 : ((rdOf ByteArray.empty l0 x5_1).toList != (rdOf ByteArray.empty l1 x5_1).toList) = false := bne_eq_false_iff_eq.mpr c7
        clear c7
        have H' := Aside0.mk H
        clear H
        have p156 : 0 ≤ (x5_1 : Int) := of_decide_eq_true (by first | (with_reducible assumption) | assumption)
        have q156 : x5_1 < (l0.length : Int) := of_decide_eq_true (by first | (with_reducible assumption) | assumption)
        obtain ⟨ad156, e156, hx156_0⟩ := Kd.at_string HR0.out x5_1 p156 q156
        cases e156
        replace p156 := eq_true p156
        replace q156 := eq_true q156
        have p157 : 0 ≤ (x5_1 : Int) := of_decide_eq_true (by first | (with_reducible assumption) | assumption)
        have q157 : x5_1 < (l1.length : Int) := of_decide_eq_true (by first | (with_reducible assumption) | assumption)
        obtain ⟨ad157, e157, hx157_0⟩ := Kd.at_string HR1.out x5_1 p157 q157
        cases e157
        replace p157 := eq_true p157
        replace q157 := eq_true q157
        go_wp2
        repeat (go_quiet (fail); try go_wp2)
        go_roundg k1
        case measure => have := HK1.out; omega
        case rel => exact ⟨(wrap64 (x5_1 + 1)), (by first | rfl | (simp; done) | (simp [*]; done)), H', ⟨by have := HK1.out; omega⟩, by repeat (first | exact Drawn0.refl _ | apply Drawn0.step)⟩
       ·rw [if_neg c7] at H
        have c7b0 : ((rdOf ByteArray.empty l0 x5_1).toList == (rdOf ByteArray.empty l1 x5_1).toList) = false := beq_eq_false_iff_ne.mpr c7
        have c7b1 : ((rdOf ByteArray.empty l0 x5_1).toList != (rdOf ByteArray.empty l1 x5_1).toList) = true := bne_iff_ne.mpr c7
        obtain rfl := Option.some.inj H
        have p156 : 0 ≤ (x5_1 : Int) := of_decide_eq_true (by first | (with_reducible assumption) | assumption)
        have q156 : x5_1 < (l0.length : Int) := of_decide_eq_true (by first | (with_reducible assumption) | assumption)
        obtain ⟨ad156, e156, hx156_0⟩ := Kd.at_string HR0.out x5_1 p156 q156
        cases e156
        replace p156 := eq_true p156
        replace q156 := eq_true q156
        have p157 : 0 ≤ (x5_1 : Int) := of_decide_eq_true (by first | (with_reducible assumption) | assumption)
        have q157 : x5_1 < (l1.length : Int) := of_decide_eq_true (by first | (with_reducible assumption) | assumption)
        obtain ⟨ad157, e157, hx157_0⟩ := Kd.at_string HR1.out x5_1 p157 q157
        cases e157
        replace p157 := eq_true p157
        replace q157 := eq_true q157
        go_wp2
        repeat (go_quiet (fail); try go_wp2)
        go_ret
        exact ⟨by first | rfl | (simp; done) | (simp [*]; done), by repeat (first | exact Drawn0.refl _ | apply Drawn0.step)⟩
      ·rw [if_neg c6] at H
       exact absurd H (by simp)
     ·rw [if_neg c5] at H
      exact absurd H (by simp)
    ·rw [if_neg c4] at H
     have c4b0 : decide (x5_1 < (l0.length : Int)) = false := decide_eq_false c4
     clear c4
     obtain rfl := Option.some.inj H
     go_wp2
     repeat (go_quiet (fail); try go_wp2)
     go_ret
     exact ⟨by first | rfl | (simp; done) | (simp [*]; done), by repeat (first | exact Drawn0.refl _ | apply Drawn0.step)⟩
 ·rw [if_neg c3] at H
  have c3b0 : ((l0.length : Int) == (l1.length : Int)) = false := beq_eq_false_iff_ne.mpr c3
  have c3b1 : ((l0.length : Int) != (l1.length : Int)) = true := bne_iff_ne.mpr c3
  have c3b2 : (l0.length == l1.length) = false := by first | simpa using c3 | (simp at c3 ⊢; omega)
  obtain rfl := Option.some.inj H
  go_enter Tryz.func34, Tryz.ntmps34
  go_wp2
  repeat (go_quiet (fail); try go_wp2)
  go_ret
  exact ⟨by first | rfl | (simp; done) | (simp [*]; done), by repeat (first | exact Drawn0.refl _ | apply Drawn0.step)⟩
-- NOT PRINTED: function 35 (stolelaw0_SpoilNodes)
-- NOT PRINTED: function 36 (stolelaw8_awake)
-- NOT PRINTED: function 5 (stolelaw8_Pages)
-- NOT PRINTED: function 6 (stolelaw8_PageTexts)
-- NOT PRINTED: function 7 (stolelaw8_PageForms)
-- NOT PRINTED: function 8 (stolelaw8_PageRows)
-- NOT PRINTED: function 37 (audit_Alike)
-- NOT PRINTED: function 38 (stoleref5_Alike)
-- NOT PRINTED: function 181 (strings_NewReplacer)
-- NOT PRINTED: function 250 (atomic_LoadUint32)
-- NOT PRINTED: function 238 (atomic_Bool_Load)
-- NOT PRINTED: function 263 (race_Disable)
-- NOT PRINTED: function 264 (atomic_CompareAndSwapInt32)
-- NOT PRINTED: function 265 (race_Enable)
-- NOT PRINTED: function 266 (race_Acquire)
-- NOT PRINTED: function 269 (atomic_AddInt32)
-- NOT PRINTED: function 272 (sync_runtime_canSpin)
-- NOT PRINTED: function 273 (sync_runtime_doSpin)
-- NOT PRINTED: function 274 (sync_throw)
-- NOT PRINTED: function 275 (sync_runtime_nanotime)
-- NOT PRINTED: function 276 (sync_runtime_SemacquireMutex)
-- NOT PRINTED: function 267 (sync_Mutex_lockSlow)
-- NOT PRINTED: function 257 (sync_Mutex_Lock_257)
-- NOT PRINTED: function 251 (sync_Mutex_Lock_251)
-- NOT PRINTED: function 268 (race_ReleaseMerge)
-- NOT PRINTED: function 277 (sync_fatal)
-- NOT PRINTED: function 278 (sync_runtime_Semrelease)
-- NOT PRINTED: function 270 (sync_Mutex_unlockSlow)
-- NOT PRINTED: function 258 (sync_Mutex_Unlock_258)
-- NOT PRINTED: function 252 (sync_Mutex_Unlock_252)
-- NOT PRINTED: function 259 (atomic_StoreUint32)
-- NOT PRINTED: function 260 (atomic_b32)
-- NOT PRINTED: function 253 (atomic_Bool_Store)
-- NOT PRINTED: function 239 (sync_Once_doSlow)
-- NOT PRINTED: function 216 (sync_Once_Do)
-- NOT PRINTED: function 271 (strings_longestCommonSuffix)
-- NOT PRINTED: function 261 (strings_makeStringFinder)
-- NOT PRINTED: function 254 (strings_makeSingleStringReplacer)
-- NOT PRINTED: function 262 (strings_trieNode_add)
-- NOT PRINTED: function 255 (strings_makeGenericReplacer)
-- NOT PRINTED: function 240 (strings_Replacer_build)
-- NOT PRINTED: function 217 (strings_Replacer_buildOnce)
-- NOT PRINTED: function 182 (strings_Replacer_Replace)
-- NOT PRINTED: function 131 (url_drop)
-- NOT PRINTED: function 133 (url_of)
-- NOT PRINTED: function 134 (url_set_has)
-- NOT PRINTED: function 135 (utf_Lower)
-- NOT PRINTED: function 70 (url_Scheme)
-- NOT PRINTED: function 71 (elem_Attr)
-- NOT PRINTED: function 39 (audit_Schemes)
-- NOT PRINTED: function 139 (stoleref1_Lower)
-- NOT PRINTED: function 72 (stoleref1_Scheme)
-- NOT PRINTED: function 40 (stoleref5_Schemes)
-- NOT PRINTED: function 41 (stolelaw24_awake)
-- NOT PRINTED: function 9 (stolelaw24_Audits)
-- NOT PRINTED: function 10 (stolelaw24_AuditTexts)
-- NOT PRINTED: function 11 (stolelaw24_AuditAttrs)
-- NOT PRINTED: function 12 (stolelaw24_SchemeRows)
-- NOT PRINTED: function 13 (stolelaw24_AuditLong)
-- NOT PRINTED: function 187 (strings_explode)
-- NOT PRINTED: function 140 (strings_genSplit)
-- NOT PRINTED: function 74 (strings_Split)
-- NOT PRINTED: function 190 (stringslite_Cut)
-- NOT PRINTED: function 141 (strings_Cut)
-- NOT PRINTED: function 222 (utf_sign)
-- NOT PRINTED: function 191 (utf_Norm)
-- NOT PRINTED: function 223 (refs_written)
-- NOT PRINTED: function 192 (refs_Encode)
-- NOT PRINTED: function 193 (console_scheme)
-- NOT PRINTED: function 224 (url_allowed)
-- NOT PRINTED: function 225 (url_written)
-- NOT PRINTED: function 194 (url_Start)
-- NOT PRINTED: function 195 (url_Part)
-- NOT PRINTED: function 226 (jstr_bits)
-- NOT PRINTED: function 196 (jstr_Escape)
-- NOT PRINTED: function 197 (css_Filter)
-- NOT PRINTED: function 143 (console_failed)
-- NOT PRINTED: function 198 (console_skeleton)
-- NOT PRINTED: function 142 (console_commands)
-- NOT PRINTED: function 75 (console_line)
-- NOT PRINTED: function 42 (console_Run)
-- NOT PRINTED: function 43 (stolelaw25_awake)
-- NOT PRINTED: function 144 (stoleref1_Size)
-- NOT PRINTED: function 76 (stoleref1_Norm)
-- NOT PRINTED: function 77 (stoleref1_Encode)
-- NOT PRINTED: function 146 (stoleref1_Known)
-- NOT PRINTED: function 148 (stoleref1_in)
-- NOT PRINTED: function 147 (stoleref1_percent)
-- NOT PRINTED: function 79 (stoleref1_UrlStart)
-- NOT PRINTED: function 80 (stoleref1_UrlPart)
-- NOT PRINTED: function 81 (stoleref1_Escape)
-- NOT PRINTED: function 82 (stoleref1_Filter)
-- NOT PRINTED: function 83 (stolelaw25_skeleton)
-- NOT PRINTED: function 44 (stolelaw25_told)
-- NOT PRINTED: function 14 (stolelaw25_ConsoleRuns)
-- NOT PRINTED: function 15 (stolelaw25_ConsoleBegins)
-- NOT PRINTED: function 16 (stolelaw25_ConsoleMany)
-- NOT PRINTED: function 17 (stolelaw25_ConsoleForms)
end Go.Proofs.YtfmcdlbbbmeolaaGreatDoor.XK
end
section
namespace Go.Proofs.YtfmcdlbbbmeolaaGreatDoor.XK
theorem info39 : (Tryz.prog.info? 39).map (fun i => (i.zero, i.size, i.bytes)) = some (some (.agg #[(.string ⟨#[]⟩), (.string ⟨#[]⟩)]), 2, 32) := by kernel_rfl
end Go.Proofs.YtfmcdlbbbmeolaaGreatDoor.XK
end
section
namespace Go.Proofs.YtfmcdlbbbmeolaaGreatDoor.Base
open Go.RowKit Go.Proofs.YtfmcdlbbbmeolaaGreatDoorW.PrintWords Go.Proofs.YtfmcdlbbbmeolaaGreatDoorW.PrintLast Go.Proofs.YtfmcdlbbbmeolaaGreatDoorW.PrintMore
section
variable {α β : Type} {r : α} {s : β}
theorem Ev.pos {c : Prop} [Decidable c] {a b : Nat → Option α} (h : c) (H : Ev a r) : Ev (fun k => if c then a k else b k) r := by
  simpa only [if_pos h] using H
theorem Ev.neg {c : Prop} [Decidable c] {a b : Nat → Option α} (h : ¬ c) (H : Ev b r) : Ev (fun k => if c then a k else b k) r := by
  simpa only [if_neg h] using H
theorem Ev.bindC {o : Option β} {f : Nat → β → Option α} (h : o = some s) (H : Ev (fun k => f k s) r) : Ev (fun k => o.bind (f k)) r := by
  subst h; exact H
theorem Ev.ofSome {o : Option α} (h : o = some r) : Ev (fun _ => o) r := ⟨0, fun _ _ => h⟩
end
theorem bt_list (s : ByteArray) (i : Nat) (h : i < s.size) : bt s (i : Int) = (((s.data.toList.getD i 0).toNat : Nat) : Int) := by
  have hl : i < s.data.toList.length := by rw [data_length]; exact h
  simp only [bt, Int.toNat_natCast, h, dite_true, List.getD_eq_getElem?_getD, List.getElem?_eq_getElem hl, Option.getD_some, Array.getElem_toList]
  rfl
theorem wrap_next {i n : Nat} (h : i < n) (hn : n ≤ 4611686018427387904) : wrap64 ((i : Int) + 1) = ((i + 1 : Nat) : Int) := by
  unfold wrap64; omega
theorem size_append (a b : ByteArray) : (a ++ b).size = a.size + b.size := ByteArray.size_append
theorem data_append (a b : ByteArray) : (a ++ b).data.toList = a.data.toList ++ b.data.toList := by
  rw [ByteArray.data_append, Array.toList_append]
theorem ext_list {a b : ByteArray} (h : a.data.toList = b.data.toList) : a = b := by
  rcases a with ⟨⟨a⟩⟩; rcases b with ⟨⟨b⟩⟩; simp only at h; rw [h]
theorem list_eq (a : ByteArray) : a.toList = a.data.toList := ByteArray.toList_eq a
end Go.Proofs.YtfmcdlbbbmeolaaGreatDoor.Base
end
section
namespace Go.Proofs.YtfmcdlbbbmeolaaGreatDoor.Tk
open Go.RowKit Go.Proofs.YtfmcdlbbbmeolaaGreatDoorW.PrintWords Go.Proofs.YtfmcdlbbbmeolaaGreatDoorW.PrintLast Go.Proofs.YtfmcdlbbbmeolaaGreatDoorW.PrintMore
open Go.Proofs.YtfmcdlbbbmeolaaGreatDoor.XK (elem_Kind.f elem_Kind.j0 elem_Kind.j1 elem_Kind.calls)
open Go.Proofs.YtfmcdlbbbmeolaaGreatDoor.Refs (lowN lowByte_calls)
attribute [local go_sem ↓] Go.wp_at_zero Go.wp_at_succ
set_option linter.unusedVariables false
set_option linter.unusedSimpArgs false
set_option maxRecDepth 100000
def letN (c : Nat) : Bool := decide (97 ≤ lowN c) && decide (lowN c ≤ 122)
set_option maxHeartbeats 1600000 in
theorem letter_calls (c : Nat) (w : World) : Calls Tryz.prog 132 #[.int .u8 c] w fun e w' => e = .returned (.bool (letN c)) ∧ w = w' := by
  have HL := Aside0.mk (fun w => lowByte_calls c w)
  obtain ⟨m, hm⟩ : ∃ m, lowN c = m := ⟨_, rfl⟩
  rw [hm] at HL
  unfold letN
  rw [hm]
  clear hm
  by_cases h1 : 97 ≤ m
  · have d1 : decide ((97 : Int) ≤ (m : Int)) = true := decide_eq_true (by omega)
    have e1 : decide (97 ≤ m) = true := decide_eq_true h1
    rw [e1, Bool.true_and]
    by_cases h2 : m ≤ 122
    · have d2 : decide ((m : Int) ≤ 122) = true := decide_eq_true (by omega)
      have e2 : decide (m ≤ 122) = true := decide_eq_true h2
      rw [e2]
      clear h1 h2 e1 e2
      go_enter Tryz.func132, Tryz.ntmps132
      go_wp2_with (go_at_call 183; refine (HL.out _).mono ?_; rintro e w2 ⟨rfl, rfl⟩)
      go_ret
      exact ⟨rfl, rfl⟩
    · have d2 : decide ((m : Int) ≤ 122) = false := decide_eq_false (by omega)
      have e2 : decide (m ≤ 122) = false := decide_eq_false h2
      rw [e2]
      clear h1 h2 e1 e2
      go_enter Tryz.func132, Tryz.ntmps132
      go_wp2_with (go_at_call 183; refine (HL.out _).mono ?_; rintro e w2 ⟨rfl, rfl⟩)
      go_ret
      exact ⟨rfl, rfl⟩
  · have d1 : decide ((97 : Int) ≤ (m : Int)) = false := decide_eq_false (by omega)
    have e1 : decide (97 ≤ m) = false := decide_eq_false h1
    rw [e1, Bool.false_and]
    clear h1 e1
    go_enter Tryz.func132, Tryz.ntmps132
    go_wp2_with (go_at_call 183; refine (HL.out _).mono ?_; rintro e w2 ⟨rfl, rfl⟩)
    go_ret
    exact ⟨rfl, rfl⟩
def blankN (c : Nat) : Bool := c == 32 || (decide (9 ≤ c) && (decide (c ≤ 13) && c != 11))
set_option maxHeartbeats 1600000 in
theorem blank_calls (c : Nat) (w : World) : Calls Tryz.prog 156 #[.int .u8 c] w fun e w' => e = .returned (.bool (blankN c)) ∧ w = w' := by
  unfold blankN
  by_cases h1 : c = 32
  · subst h1
    go_enter Tryz.func156, Tryz.ntmps156
    go_wp2
    go_ret
    exact ⟨rfl, rfl⟩
  have d1 : ((c : Int) == 32) = false := by rw [beq_eq_false_iff_ne]; omega
  have e1 : (c == 32) = false := by simpa using h1
  rw [e1, Bool.false_or]
  by_cases h2 : 9 ≤ c
  · have d2 : decide ((9 : Int) ≤ (c : Int)) = true := decide_eq_true (by omega)
    rw [decide_eq_true h2, Bool.true_and]
    by_cases h3 : c ≤ 13
    · have d3 : decide ((c : Int) ≤ 13) = true := decide_eq_true (by omega)
      rw [decide_eq_true h3, Bool.true_and]
      have e4 : ((c : Int) != 11) = (c != 11) := by
        by_cases h4 : c = 11
        · subst h4; rfl
        · rw [show (c != 11) = true by simpa using h4, bne_iff_ne]; omega
      have E4 := Aside0.mk e4
      clear h1 h2 h3 e1 e4
      go_enter Tryz.func156, Tryz.ntmps156
      go_wp2
      go_ret
      exact ⟨by first | rfl | (rw [E4.out]; rfl), rfl⟩
    · have d3 : decide ((c : Int) ≤ 13) = false := decide_eq_false (by omega)
      rw [decide_eq_false h3, Bool.false_and]
      clear h1 h2 h3 e1
      go_enter Tryz.func156, Tryz.ntmps156
      go_wp2
      go_ret
      exact ⟨rfl, rfl⟩
  · have d2 : decide ((9 : Int) ≤ (c : Int)) = false := decide_eq_false (by omega)
    rw [decide_eq_false h2, Bool.false_and]
    clear h1 h2 e1
    go_enter Tryz.func156, Tryz.ntmps156
    go_wp2
    go_ret
    exact ⟨rfl, rfl⟩
theorem ex_ite {α : Type} {c : Prop} [Decidable c] {a b : Option α} (h1 : ∃ v, a = some v) (h2 : ∃ v, b = some v) : ∃ v, (if c then a else b) = some v := by
  by_cases h : c
  · rw [if_pos h]; exact h1
  · rw [if_neg h]; exact h2
theorem kind_some (s : ByteArray) : ∃ v, elem_Kind.f 3 s = some v := by
  unfold elem_Kind.f
  simp only [elem_Kind.j0, elem_Kind.j1]
  repeat' first | exact ⟨_, rfl⟩ | refine ex_ite ?_ ?_
def kindOf (s : ByteArray) : Int := (elem_Kind.f 3 s).getD 0
theorem kind_def (s : ByteArray) : elem_Kind.f 3 s = some (kindOf s) := by
  obtain ⟨v, hv⟩ := kind_some s
  unfold kindOf; rw [hv]; rfl
theorem kind_calls (s : ByteArray) (w : World) : Calls Tryz.prog 167 #[.string s] w fun e w' => e = .returned (.int .i64 (kindOf s)) ∧ Drawn0 w w' := elem_Kind.calls 3 s _ w (kind_def s)
theorem one_string (w : World) (m : Nat) (hm : m < 256) : (convert 37 9 (.slice (some ⟨w.heap.size, 0, none⟩) 1 1)).run Tryz.prog (w.alloc (.cells #[.int .u8 (m : Int)] 5)) = .ok (.string ⟨#[UInt8.ofNat m]⟩) (w.alloc (.cells #[.int .u8 (m : Int)] 5)) := by
  have h := run_convert_bytes_arg (P := Tryz.prog) (w.alloc (.cells #[.int .u8 (m : Int)] 5)) 37 5 Tryz.underlying37 Tryz.underlying5 w.heap.size 0 1 1 [(m : Int)] rfl (fun i hi => by
    obtain rfl : i = 0 := by omega
    exact (blk_cell (heap_alloc_new w _) 0).trans rfl) 9 Tryz.underlying9
  rw [h]
  have e : strOfNums [(m : Int)] = ⟨#[UInt8.ofNat m]⟩ := by
    have e2 := strOfNums_data [(m : Int)]
    exact Go.Proofs.YtfmcdlbbbmeolaaGreatDoor.Base.ext_list (by rw [e2]; rfl)
  rw [e]
def moreS (nm : ByteArray) (c : Nat) : ByteArray := if 32 ≤ nm.size then nm else nm ++ ⟨#[UInt8.ofNat (lowN c)]⟩
set_option maxHeartbeats 1600000 in
theorem more_calls (nm : ByteArray) (c : Nat) (w : World) (hc : c < 256) : Calls Tryz.prog 152 #[.string nm, .int .u8 c] w fun e w' => e = .returned (.string (moreS nm c)) ∧ Below w.heap.size w w' := by
  by_cases h1 : 32 ≤ nm.size
  · have d1 : decide ((32 : Int) ≤ (nm.size : Int)) = true := decide_eq_true (by omega)
    have HM := Aside0.mk (show moreS nm c = nm by unfold moreS; rw [if_pos h1])
    clear h1
    go_enter Tryz.func152, Tryz.ntmps152
    go_wp2
    go_ret
    exact ⟨by rw [HM.out]; rfl, Below.refl _ _⟩
  · have d1 : decide ((32 : Int) ≤ (nm.size : Int)) = false := decide_eq_false (by omega)
    have hl : lowN c < 256 := by unfold lowN; split <;> omega
    have hs : nm.size + 1 ≤ 9223372036854775807 := by omega
    have HM := Aside0.mk (show moreS nm c = nm ++ ⟨#[UInt8.ofNat (lowN c)]⟩ by unfold moreS; rw [if_neg h1])
    have HL := Aside0.mk (fun w => lowByte_calls c w)
    obtain ⟨m, hm⟩ : ∃ m, lowN c = m := ⟨_, rfl⟩
    rw [hm] at HL HM hl
    have HLt := Aside0.mk hl
    have hcv := one_string w m hl
    clear h1 hm hl hc
    go_enter Tryz.func152, Tryz.ntmps152
    go_wp2_with (go_at_call 183; refine (HL.out _).mono ?_; rintro e w2 ⟨rfl, rfl⟩)
    go_ret
    exact ⟨by rw [HM.out]; rfl, (Below.refl _ _).alloc (Nat.le_refl _) _⟩
end Go.Proofs.YtfmcdlbbbmeolaaGreatDoor.Tk
end
section
namespace Go.Proofs.YtfmcdlbbbmeolaaGreatDoor.Tk
open Go.RowKit Go.Proofs.YtfmcdlbbbmeolaaGreatDoorW.PrintWords Go.Proofs.YtfmcdlbbbmeolaaGreatDoorW.PrintLast Go.Proofs.YtfmcdlbbbmeolaaGreatDoorW.PrintMore
open Go.Proofs.YtfmcdlbbbmeolaaGreatDoor.Refs (lowN lowByte_calls)
attribute [local go_sem ↓] Go.wp_at_zero Go.wp_at_succ
set_option linter.unusedVariables false
set_option linter.unusedSimpArgs false
set_option maxRecDepth 100000
def attrS (s : St) (x : Int) (nm : ByteArray) : St := ⟨x, s.name, s.fin, nm, ⟨#[]⟩, 0⟩
def heldS (s : St) (x : Int) : St := ⟨x, ⟨#[]⟩, false, ⟨#[]⟩, s.held, 0⟩
def closesS (s : St) : St := if s.fin = true then atS 0 else if kindOf s.name = 0 then atS 0 else if kindOf s.name = 1 then atS 0 else ⟨19, ⟨#[]⟩, false, ⟨#[]⟩, s.name, 0⟩
def dataS (c : Nat) : St := if c = 60 then atS 1 else atS 0
def tagOpenS (c : Nat) : St := if letN c = true then ⟨3, moreS ⟨#[]⟩ c, false, ⟨#[]⟩, ⟨#[]⟩, 0⟩ else if c = 47 then atS 2 else if c = 33 then atS 13 else dataS c
def endOpenS (c : Nat) : St := if letN c = true then ⟨3, moreS ⟨#[]⟩ c, true, ⟨#[]⟩, ⟨#[]⟩, 0⟩ else dataS c
def betweenS (s : St) (c : Nat) (x : Int) : Option St := if blankN c = true then some (inS s x) else if c = 47 then some (inS s 12) else if c = 62 then some (closesS s) else none
def tagNameS (s : St) (c : Nat) : St := match betweenS s c 4 with
  | some o => o
  | none => ⟨3, moreS s.name c, s.fin, ⟨#[]⟩, ⟨#[]⟩, 0⟩
def beginsS (s : St) (c : Nat) : St := match betweenS s c 4 with
  | some o => o
  | none => attrS s 5 (moreS ⟨#[]⟩ c)
def namesS (s : St) (c : Nat) (nm : ByteArray) : St := if blankN c = true then attrS s 6 s.attr else if c = 61 then attrS s 7 s.attr else match betweenS s c 0 with
  | some o => o
  | none => attrS s 5 (moreS nm c)
def beforeValueS (s : St) (c : Nat) : St := if blankN c = true then attrS s 7 s.attr else if c = 34 then attrS s 8 s.attr else if c = 39 then attrS s 9 s.attr else if c = 62 then closesS s else attrS s 10 s.attr
def quotedS (s : St) (c q : Nat) : St := if c = q then inS s 11 else attrS s s.pos s.attr
def bareS (s : St) (c : Nat) : St := if blankN c = true then inS s 4 else if c = 62 then closesS s else attrS s 10 s.attr
def bangsS (c : Nat) (x : Int) : St := if c = 45 then atS x else if c = 62 then atS 0 else atS 18
def eitherS (b : Bool) (x y : Int) : St := if b = true then atS x else atS y
def commentS (c : Nat) : St := if c = 45 then eitherS true 16 15 else eitherS false 16 15
def commentDashS (c : Nat) : St := if c = 45 then eitherS true 17 15 else eitherS false 17 15
def commentEndS (c : Nat) : St := if c = 62 then atS 0 else if c = 45 then eitherS true 17 15 else eitherS false 17 15
def bogusS (c : Nat) : St := if c = 62 then eitherS true 0 18 else eitherS false 0 18
def holdsS (s : St) (c : Nat) : St := if c = 60 then heldS s 20 else heldS s 19
def heldLtS (s : St) (c : Nat) : St := if c = 47 then heldS s 21 else holdsS s c
def byteAt (s : ByteArray) (i : Int) : Nat := (s.data.toList.getD i.toNat 0).toNat
def readsS (s : St) (c : Nat) (r : Int) : St := if 0 ≤ r ∧ r < s.held.size ∧ lowN c = lowN (byteAt s.held r) then ⟨22, ⟨#[]⟩, false, ⟨#[]⟩, s.held, r + 1⟩ else holdsS s c
def heldNameS (s : St) (c : Nat) : St := if s.read < s.held.size then readsS s c s.read else match betweenS ⟨0, s.held, true, ⟨#[]⟩, ⟨#[]⟩, 0⟩ c 4 with
  | some o => o
  | none => holdsS s c
set_option maxHeartbeats 1600000 in
theorem attr_calls (s : St) (x : Int) (nm : ByteArray) (g : Nat) (w : World) (h : StAt w g s) : Calls Tryz.prog 154 #[.pointer (some ⟨g, 0, none⟩), .int .i64 x, .string nm] w (RetS (attrS s x nm) w) := by
  have hu40 := Tryz.underlying44
  have c1 : w.cell? ⟨g, 1, none⟩ = some (.string s.name) := (blk_cell h 1).trans rfl
  have c2 : w.cell? ⟨g, 2, none⟩ = some (.bool s.fin) := (blk_cell h 2).trans rfl
  have := World.new_ne w ⟨g, 1, none⟩ c1
  go_enter Tryz.func154, Tryz.ntmps154
  go_wp2
  go_region_held3 (fun w' => w'.cell? ⟨g, 1, none⟩ = some (.string s.name) ∧ w'.cell? ⟨g, 2, none⟩ = some (.bool s.fin)) (go_keep) (fail)
  go_wp2
  exact ret_cell rfl rfl rfl (heap_alloc_new w _) (pw_below_drewN ((Below.refl _ _).alloc (Nat.le_refl _) _) 1)
set_option maxHeartbeats 1600000 in
theorem held_calls (s : St) (x : Int) (g : Nat) (w : World) (h : StAt w g s) : Calls Tryz.prog 162 #[.pointer (some ⟨g, 0, none⟩), .int .i64 x] w (RetS (heldS s x) w) := by
  have hu40 := Tryz.underlying44
  have HS := Aside0.mk h
  clear h
  go_enter Tryz.func162, Tryz.ntmps162
  go_wp2_with (first
    | ((with_reducible refine gate_dst (N := 4) rfl ?_); refine box_event ?hg (N := 4) ?hd (cs := #[.int .i64 0, .string ⟨#[]⟩, .bool false, .string ⟨#[]⟩, .string ⟨#[]⟩, .int .i64 0]) (t := 44) ?hr ?_; (case hd => rfl); (case hg => rfl); (case hr => first | (go_simp; done) | (go_simp; rfl)); intro gb hgb w0_ hbox hb; have HF := Aside0.mk (Fr.start HS.out hgb hbox hb); clear hgb hbox hb; obtain ⟨s0, s1, s2, s3, s4, s5⟩ := HF.out.facts; obtain ⟨a0, a1, a2, a3, a4, a5, b0, b1, b2, b3, b4, b5⟩ := HF.out.rfacts))
  exact HF.out.ret rfl rfl rfl
set_option maxHeartbeats 1600000 in
theorem closes_calls (s : St) (g : Nat) (w : World) (h : StAt w g s) : Calls Tryz.prog 157 #[.pointer (some ⟨g, 0, none⟩)] w (RetS (closesS s) w) := by
  have hu40 := Tryz.underlying44
  have HS := Aside0.mk h
  clear h
  have HKi := Aside0.mk (fun w => kind_calls s.name w)
  by_cases q1 : s.fin = true
  · skip
    have f2 : s.fin = true := q1
    have HD := Aside0.mk (show closesS s = atS 0 by unfold closesS; rw [if_pos q1])
    clear q1
    go_enter Tryz.func157, Tryz.ntmps157
    go_wp2_with (first
      | ((with_reducible refine gate_dst (N := 2) rfl ?_); refine box_event ?hg (N := 2) ?hd (cs := #[.int .i64 0, .string ⟨#[]⟩, .bool false, .string ⟨#[]⟩, .string ⟨#[]⟩, .int .i64 0]) (t := 44) ?hr ?_; (case hd => rfl); (case hg => rfl); (case hr => first | (go_simp; done) | (go_simp; rfl)); intro gb hgb w0_ hbox hb; have HF := Aside0.mk (Fr.start HS.out hgb hbox hb); clear hgb hbox hb; obtain ⟨s0, s1, s2, s3, s4, s5⟩ := HF.out.facts; obtain ⟨a0, a1, a2, a3, a4, a5, b0, b1, b2, b3, b4, b5⟩ := HF.out.rfacts)
      | (go_at_call 167; refine (HKi.out _).mono ?_; rintro e w1 ⟨rfl, ⟨⟨m, rfl⟩⟩⟩; have HF := Aside0.mk (HF.out.drewN m); obtain ⟨s0, s1, s2, s3, s4, s5⟩ := HF.out.facts; obtain ⟨a0, a1, a2, a3, a4, a5, b0, b1, b2, b3, b4, b5⟩ := HF.out.rfacts)
      | (go_at_call 151; refine (at_calls _ _).mono ?_; rintro e w1 ⟨rfl, hb⟩; have HF := Aside0.mk (Fr.step (by (with_reducible repeat (first | exact HF.out | apply Fr.alloc | apply Fr.drew | apply Fr.drewN))) hb); clear hb; obtain ⟨s0, s1, s2, s3, s4, s5⟩ := HF.out.facts; obtain ⟨a0, a1, a2, a3, a4, a5, b0, b1, b2, b3, b4, b5⟩ := HF.out.rfacts))
    rw [HD.out]
    exact HF.out.ret rfl rfl rfl
  · skip
    have f2 : s.fin = false := by simpa using q1
    by_cases q2 : kindOf s.name = 0
    · skip
      have k0 : kindOf s.name = 0 := q2
      have HD := Aside0.mk (show closesS s = atS 0 by unfold closesS; rw [if_neg q1, if_pos q2])
      clear q1 q2
      go_enter Tryz.func157, Tryz.ntmps157
      go_wp2_with (first
        | ((with_reducible refine gate_dst (N := 2) rfl ?_); refine box_event ?hg (N := 2) ?hd (cs := #[.int .i64 0, .string ⟨#[]⟩, .bool false, .string ⟨#[]⟩, .string ⟨#[]⟩, .int .i64 0]) (t := 44) ?hr ?_; (case hd => rfl); (case hg => rfl); (case hr => first | (go_simp; done) | (go_simp; rfl)); intro gb hgb w0_ hbox hb; have HF := Aside0.mk (Fr.start HS.out hgb hbox hb); clear hgb hbox hb; obtain ⟨s0, s1, s2, s3, s4, s5⟩ := HF.out.facts; obtain ⟨a0, a1, a2, a3, a4, a5, b0, b1, b2, b3, b4, b5⟩ := HF.out.rfacts)
        | (go_at_call 167; refine (HKi.out _).mono ?_; rintro e w1 ⟨rfl, ⟨⟨m, rfl⟩⟩⟩; have HF := Aside0.mk (HF.out.drewN m); obtain ⟨s0, s1, s2, s3, s4, s5⟩ := HF.out.facts; obtain ⟨a0, a1, a2, a3, a4, a5, b0, b1, b2, b3, b4, b5⟩ := HF.out.rfacts)
        | (go_at_call 151; refine (at_calls _ _).mono ?_; rintro e w1 ⟨rfl, hb⟩; have HF := Aside0.mk (Fr.step (by (with_reducible repeat (first | exact HF.out | apply Fr.alloc | apply Fr.drew | apply Fr.drewN))) hb); clear hb; obtain ⟨s0, s1, s2, s3, s4, s5⟩ := HF.out.facts; obtain ⟨a0, a1, a2, a3, a4, a5, b0, b1, b2, b3, b4, b5⟩ := HF.out.rfacts))
      rw [HD.out]
      exact HF.out.ret rfl rfl rfl
    · skip
      have k0 : (kindOf s.name == 0) = false := by simpa using q2
      by_cases q3 : kindOf s.name = 1
      · skip
        have k1 : kindOf s.name = 1 := q3
        have HD := Aside0.mk (show closesS s = atS 0 by unfold closesS; rw [if_neg q1, if_neg q2, if_pos q3])
        clear q1 q2 q3
        go_enter Tryz.func157, Tryz.ntmps157
        go_wp2_with (first
          | ((with_reducible refine gate_dst (N := 2) rfl ?_); refine box_event ?hg (N := 2) ?hd (cs := #[.int .i64 0, .string ⟨#[]⟩, .bool false, .string ⟨#[]⟩, .string ⟨#[]⟩, .int .i64 0]) (t := 44) ?hr ?_; (case hd => rfl); (case hg => rfl); (case hr => first | (go_simp; done) | (go_simp; rfl)); intro gb hgb w0_ hbox hb; have HF := Aside0.mk (Fr.start HS.out hgb hbox hb); clear hgb hbox hb; obtain ⟨s0, s1, s2, s3, s4, s5⟩ := HF.out.facts; obtain ⟨a0, a1, a2, a3, a4, a5, b0, b1, b2, b3, b4, b5⟩ := HF.out.rfacts)
          | (go_at_call 167; refine (HKi.out _).mono ?_; rintro e w1 ⟨rfl, ⟨⟨m, rfl⟩⟩⟩; have HF := Aside0.mk (HF.out.drewN m); obtain ⟨s0, s1, s2, s3, s4, s5⟩ := HF.out.facts; obtain ⟨a0, a1, a2, a3, a4, a5, b0, b1, b2, b3, b4, b5⟩ := HF.out.rfacts)
          | (go_at_call 151; refine (at_calls _ _).mono ?_; rintro e w1 ⟨rfl, hb⟩; have HF := Aside0.mk (Fr.step (by (with_reducible repeat (first | exact HF.out | apply Fr.alloc | apply Fr.drew | apply Fr.drewN))) hb); clear hb; obtain ⟨s0, s1, s2, s3, s4, s5⟩ := HF.out.facts; obtain ⟨a0, a1, a2, a3, a4, a5, b0, b1, b2, b3, b4, b5⟩ := HF.out.rfacts))
        rw [HD.out]
        exact HF.out.ret rfl rfl rfl
      · skip
        have k1 : (kindOf s.name == 1) = false := by simpa using q3
        have HD := Aside0.mk (show closesS s = ⟨19, ⟨#[]⟩, false, ⟨#[]⟩, s.name, 0⟩ by unfold closesS; rw [if_neg q1, if_neg q2, if_neg q3])
        clear q1 q2 q3
        go_enter Tryz.func157, Tryz.ntmps157
        go_wp2_with (first
          | ((with_reducible refine gate_dst (N := 2) rfl ?_); refine box_event ?hg (N := 2) ?hd (cs := #[.int .i64 0, .string ⟨#[]⟩, .bool false, .string ⟨#[]⟩, .string ⟨#[]⟩, .int .i64 0]) (t := 44) ?hr ?_; (case hd => rfl); (case hg => rfl); (case hr => first | (go_simp; done) | (go_simp; rfl)); intro gb hgb w0_ hbox hb; have HF := Aside0.mk (Fr.start HS.out hgb hbox hb); clear hgb hbox hb; obtain ⟨s0, s1, s2, s3, s4, s5⟩ := HF.out.facts; obtain ⟨a0, a1, a2, a3, a4, a5, b0, b1, b2, b3, b4, b5⟩ := HF.out.rfacts)
          | (go_at_call 167; refine (HKi.out _).mono ?_; rintro e w1 ⟨rfl, ⟨⟨m, rfl⟩⟩⟩; have HF := Aside0.mk (HF.out.drewN m); obtain ⟨s0, s1, s2, s3, s4, s5⟩ := HF.out.facts; obtain ⟨a0, a1, a2, a3, a4, a5, b0, b1, b2, b3, b4, b5⟩ := HF.out.rfacts))
        rw [HD.out]
        exact HF.out.ret rfl rfl rfl
set_option maxHeartbeats 1600000 in
theorem data_calls (s : St) (c : Nat) (g : Nat) (w : World) (hc : c < 256) (h : StAt w g s) : Calls Tryz.prog 85 #[.pointer (some ⟨g, 0, none⟩), .int .u8 c] w (RetS (dataS c) w) := by
  have hu40 := Tryz.underlying44
  have HS := Aside0.mk h
  clear h
  by_cases q1 : c = 60
  · skip
    have d60 : ((c : Int) == 60) = true := by rw [beq_iff_eq]; omega
    have HD := Aside0.mk (show dataS c = atS 1 by unfold dataS; rw [if_pos q1])
    clear q1
    go_enter Tryz.func85, Tryz.ntmps85
    go_wp2_with (first
      | ((with_reducible refine gate_dst (N := 4) rfl ?_); refine box_event ?hg (N := 4) ?hd (cs := #[.int .i64 0, .string ⟨#[]⟩, .bool false, .string ⟨#[]⟩, .string ⟨#[]⟩, .int .i64 0]) (t := 44) ?hr ?_; (case hd => rfl); (case hg => rfl); (case hr => first | (go_simp; done) | (go_simp; rfl)); intro gb hgb w0_ hbox hb; have HF := Aside0.mk (Fr.start HS.out hgb hbox hb); clear hgb hbox hb; obtain ⟨s0, s1, s2, s3, s4, s5⟩ := HF.out.facts; obtain ⟨a0, a1, a2, a3, a4, a5, b0, b1, b2, b3, b4, b5⟩ := HF.out.rfacts)
      | (go_at_call 151; refine (at_calls _ _).mono ?_; rintro e w1 ⟨rfl, hb⟩; have HF := Aside0.mk (Fr.step (by (with_reducible repeat (first | exact HF.out | apply Fr.alloc | apply Fr.drew | apply Fr.drewN))) hb); clear hb; obtain ⟨s0, s1, s2, s3, s4, s5⟩ := HF.out.facts; obtain ⟨a0, a1, a2, a3, a4, a5, b0, b1, b2, b3, b4, b5⟩ := HF.out.rfacts))
    rw [HD.out]
    exact HF.out.ret rfl rfl rfl
  · skip
    have d60 : ((c : Int) == 60) = false := by rw [beq_eq_false_iff_ne]; omega
    have HD := Aside0.mk (show dataS c = atS 0 by unfold dataS; rw [if_neg q1])
    clear q1
    go_enter Tryz.func85, Tryz.ntmps85
    go_wp2_with (first
      | ((with_reducible refine gate_dst (N := 4) rfl ?_); refine box_event ?hg (N := 4) ?hd (cs := #[.int .i64 0, .string ⟨#[]⟩, .bool false, .string ⟨#[]⟩, .string ⟨#[]⟩, .int .i64 0]) (t := 44) ?hr ?_; (case hd => rfl); (case hg => rfl); (case hr => first | (go_simp; done) | (go_simp; rfl)); intro gb hgb w0_ hbox hb; have HF := Aside0.mk (Fr.start HS.out hgb hbox hb); clear hgb hbox hb; obtain ⟨s0, s1, s2, s3, s4, s5⟩ := HF.out.facts; obtain ⟨a0, a1, a2, a3, a4, a5, b0, b1, b2, b3, b4, b5⟩ := HF.out.rfacts)
      | (go_at_call 151; refine (at_calls _ _).mono ?_; rintro e w1 ⟨rfl, hb⟩; have HF := Aside0.mk (Fr.step (by (with_reducible repeat (first | exact HF.out | apply Fr.alloc | apply Fr.drew | apply Fr.drewN))) hb); clear hb; obtain ⟨s0, s1, s2, s3, s4, s5⟩ := HF.out.facts; obtain ⟨a0, a1, a2, a3, a4, a5, b0, b1, b2, b3, b4, b5⟩ := HF.out.rfacts))
    rw [HD.out]
    exact HF.out.ret rfl rfl rfl
set_option maxHeartbeats 1600000 in
theorem tagOpen_calls (s : St) (c : Nat) (g : Nat) (w : World) (hc : c < 256) (h : StAt w g s) : Calls Tryz.prog 86 #[.pointer (some ⟨g, 0, none⟩), .int .u8 c] w (RetS (tagOpenS c) w) := by
  have hu40 := Tryz.underlying44
  have HS := Aside0.mk h
  clear h
  by_cases q1 : letN c = true
  · skip
    have HLe := Aside0.mk (fun w => letter_calls c w)
    rw [q1] at HLe
    have HD := Aside0.mk (show tagOpenS c = ⟨3, moreS ⟨#[]⟩ c, false, ⟨#[]⟩, ⟨#[]⟩, 0⟩ by unfold tagOpenS; rw [if_pos q1])
    clear q1
    go_enter Tryz.func86, Tryz.ntmps86
    go_wp2_with (first
      | ((with_reducible refine gate_dst (N := 4) rfl ?_); refine box_event ?hg (N := 4) ?hd (cs := #[.int .i64 0, .string ⟨#[]⟩, .bool false, .string ⟨#[]⟩, .string ⟨#[]⟩, .int .i64 0]) (t := 44) ?hr ?_; (case hd => rfl); (case hg => rfl); (case hr => first | (go_simp; done) | (go_simp; rfl)); intro gb hgb w0_ hbox hb; have HF := Aside0.mk (Fr.start HS.out hgb hbox hb); clear hgb hbox hb; obtain ⟨s0, s1, s2, s3, s4, s5⟩ := HF.out.facts; obtain ⟨a0, a1, a2, a3, a4, a5, b0, b1, b2, b3, b4, b5⟩ := HF.out.rfacts)
      | (go_at_call 132; refine (HLe.out _).mono ?_; rintro e w1 ⟨rfl, rfl⟩)
      | (go_at_call 152; refine (more_calls _ c _ (by omega)).mono ?_; rintro e w1 ⟨rfl, hb⟩; have HF := Aside0.mk (Fr.step (by (with_reducible repeat (first | exact HF.out | apply Fr.alloc | apply Fr.drew | apply Fr.drewN))) hb); clear hb; obtain ⟨s0, s1, s2, s3, s4, s5⟩ := HF.out.facts; obtain ⟨a0, a1, a2, a3, a4, a5, b0, b1, b2, b3, b4, b5⟩ := HF.out.rfacts))
    rw [HD.out]
    exact HF.out.ret rfl rfl rfl
  · skip
    have HLe := Aside0.mk (fun w => letter_calls c w)
    rw [Bool.eq_false_iff.2 q1] at HLe
    by_cases q2 : c = 47
    · skip
      have d47 : ((c : Int) == 47) = true := by rw [beq_iff_eq]; omega
      have HD := Aside0.mk (show tagOpenS c = atS 2 by unfold tagOpenS; rw [if_neg q1, if_pos q2])
      clear q1 q2
      go_enter Tryz.func86, Tryz.ntmps86
      go_wp2_with (first
        | ((with_reducible refine gate_dst (N := 4) rfl ?_); refine box_event ?hg (N := 4) ?hd (cs := #[.int .i64 0, .string ⟨#[]⟩, .bool false, .string ⟨#[]⟩, .string ⟨#[]⟩, .int .i64 0]) (t := 44) ?hr ?_; (case hd => rfl); (case hg => rfl); (case hr => first | (go_simp; done) | (go_simp; rfl)); intro gb hgb w0_ hbox hb; have HF := Aside0.mk (Fr.start HS.out hgb hbox hb); clear hgb hbox hb; obtain ⟨s0, s1, s2, s3, s4, s5⟩ := HF.out.facts; obtain ⟨a0, a1, a2, a3, a4, a5, b0, b1, b2, b3, b4, b5⟩ := HF.out.rfacts)
        | (go_at_call 132; refine (HLe.out _).mono ?_; rintro e w1 ⟨rfl, rfl⟩)
        | (go_at_call 151; refine (at_calls _ _).mono ?_; rintro e w1 ⟨rfl, hb⟩; have HF := Aside0.mk (Fr.step (by (with_reducible repeat (first | exact HF.out | apply Fr.alloc | apply Fr.drew | apply Fr.drewN))) hb); clear hb; obtain ⟨s0, s1, s2, s3, s4, s5⟩ := HF.out.facts; obtain ⟨a0, a1, a2, a3, a4, a5, b0, b1, b2, b3, b4, b5⟩ := HF.out.rfacts))
      rw [HD.out]
      exact HF.out.ret rfl rfl rfl
    · skip
      have d47 : ((c : Int) == 47) = false := by rw [beq_eq_false_iff_ne]; omega
      by_cases q3 : c = 33
      · skip
        have d33 : ((c : Int) == 33) = true := by rw [beq_iff_eq]; omega
        have HD := Aside0.mk (show tagOpenS c = atS 13 by unfold tagOpenS; rw [if_neg q1, if_neg q2, if_pos q3])
        clear q1 q2 q3
        go_enter Tryz.func86, Tryz.ntmps86
        go_wp2_with (first
          | ((with_reducible refine gate_dst (N := 4) rfl ?_); refine box_event ?hg (N := 4) ?hd (cs := #[.int .i64 0, .string ⟨#[]⟩, .bool false, .string ⟨#[]⟩, .string ⟨#[]⟩, .int .i64 0]) (t := 44) ?hr ?_; (case hd => rfl); (case hg => rfl); (case hr => first | (go_simp; done) | (go_simp; rfl)); intro gb hgb w0_ hbox hb; have HF := Aside0.mk (Fr.start HS.out hgb hbox hb); clear hgb hbox hb; obtain ⟨s0, s1, s2, s3, s4, s5⟩ := HF.out.facts; obtain ⟨a0, a1, a2, a3, a4, a5, b0, b1, b2, b3, b4, b5⟩ := HF.out.rfacts)
          | (go_at_call 132; refine (HLe.out _).mono ?_; rintro e w1 ⟨rfl, rfl⟩)
          | (go_at_call 151; refine (at_calls _ _).mono ?_; rintro e w1 ⟨rfl, hb⟩; have HF := Aside0.mk (Fr.step (by (with_reducible repeat (first | exact HF.out | apply Fr.alloc | apply Fr.drew | apply Fr.drewN))) hb); clear hb; obtain ⟨s0, s1, s2, s3, s4, s5⟩ := HF.out.facts; obtain ⟨a0, a1, a2, a3, a4, a5, b0, b1, b2, b3, b4, b5⟩ := HF.out.rfacts))
        rw [HD.out]
        exact HF.out.ret rfl rfl rfl
      · skip
        have d33 : ((c : Int) == 33) = false := by rw [beq_eq_false_iff_ne]; omega
        have HD := Aside0.mk (show tagOpenS c = dataS c by unfold tagOpenS; rw [if_neg q1, if_neg q2, if_neg q3])
        clear q1 q2 q3
        go_enter Tryz.func86, Tryz.ntmps86
        go_wp2_with (first
          | ((with_reducible refine gate_dst (N := 4) rfl ?_); refine box_event ?hg (N := 4) ?hd (cs := #[.int .i64 0, .string ⟨#[]⟩, .bool false, .string ⟨#[]⟩, .string ⟨#[]⟩, .int .i64 0]) (t := 44) ?hr ?_; (case hd => rfl); (case hg => rfl); (case hr => first | (go_simp; done) | (go_simp; rfl)); intro gb hgb w0_ hbox hb; have HF := Aside0.mk (Fr.start HS.out hgb hbox hb); clear hgb hbox hb; obtain ⟨s0, s1, s2, s3, s4, s5⟩ := HF.out.facts; obtain ⟨a0, a1, a2, a3, a4, a5, b0, b1, b2, b3, b4, b5⟩ := HF.out.rfacts)
          | (go_at_call 132; refine (HLe.out _).mono ?_; rintro e w1 ⟨rfl, rfl⟩)
          | (go_at_call 85; refine (data_calls s c g _ (by omega) (by first | exact HF.out.st | exact HF.out.st.alloc _ | exact (HF.out.st.alloc _).alloc _)).mono ?_; rintro e w1 ⟨rfl, hb⟩; have HF := Aside0.mk (Fr.step (by (with_reducible repeat (first | exact HF.out | apply Fr.alloc | apply Fr.drew | apply Fr.drewN))) hb); clear hb; obtain ⟨s0, s1, s2, s3, s4, s5⟩ := HF.out.facts; obtain ⟨a0, a1, a2, a3, a4, a5, b0, b1, b2, b3, b4, b5⟩ := HF.out.rfacts))
        rw [HD.out]
        exact HF.out.ret rfl rfl rfl
set_option maxHeartbeats 1600000 in
theorem endOpen_calls (s : St) (c : Nat) (g : Nat) (w : World) (hc : c < 256) (h : StAt w g s) : Calls Tryz.prog 87 #[.pointer (some ⟨g, 0, none⟩), .int .u8 c] w (RetS (endOpenS c) w) := by
  have hu40 := Tryz.underlying44
  have HS := Aside0.mk h
  clear h
  by_cases q1 : letN c = true
  · skip
    have HLe := Aside0.mk (fun w => letter_calls c w)
    rw [q1] at HLe
    have HD := Aside0.mk (show endOpenS c = ⟨3, moreS ⟨#[]⟩ c, true, ⟨#[]⟩, ⟨#[]⟩, 0⟩ by unfold endOpenS; rw [if_pos q1])
    clear q1
    go_enter Tryz.func87, Tryz.ntmps87
    go_wp2_with (first
      | ((with_reducible refine gate_dst (N := 4) rfl ?_); refine box_event ?hg (N := 4) ?hd (cs := #[.int .i64 0, .string ⟨#[]⟩, .bool false, .string ⟨#[]⟩, .string ⟨#[]⟩, .int .i64 0]) (t := 44) ?hr ?_; (case hd => rfl); (case hg => rfl); (case hr => first | (go_simp; done) | (go_simp; rfl)); intro gb hgb w0_ hbox hb; have HF := Aside0.mk (Fr.start HS.out hgb hbox hb); clear hgb hbox hb; obtain ⟨s0, s1, s2, s3, s4, s5⟩ := HF.out.facts; obtain ⟨a0, a1, a2, a3, a4, a5, b0, b1, b2, b3, b4, b5⟩ := HF.out.rfacts)
      | (go_at_call 132; refine (HLe.out _).mono ?_; rintro e w1 ⟨rfl, rfl⟩)
      | (go_at_call 152; refine (more_calls _ c _ (by omega)).mono ?_; rintro e w1 ⟨rfl, hb⟩; have HF := Aside0.mk (Fr.step (by (with_reducible repeat (first | exact HF.out | apply Fr.alloc | apply Fr.drew | apply Fr.drewN))) hb); clear hb; obtain ⟨s0, s1, s2, s3, s4, s5⟩ := HF.out.facts; obtain ⟨a0, a1, a2, a3, a4, a5, b0, b1, b2, b3, b4, b5⟩ := HF.out.rfacts))
    rw [HD.out]
    exact HF.out.ret rfl rfl rfl
  · skip
    have HLe := Aside0.mk (fun w => letter_calls c w)
    rw [Bool.eq_false_iff.2 q1] at HLe
    have HD := Aside0.mk (show endOpenS c = dataS c by unfold endOpenS; rw [if_neg q1])
    clear q1
    go_enter Tryz.func87, Tryz.ntmps87
    go_wp2_with (first
      | ((with_reducible refine gate_dst (N := 4) rfl ?_); refine box_event ?hg (N := 4) ?hd (cs := #[.int .i64 0, .string ⟨#[]⟩, .bool false, .string ⟨#[]⟩, .string ⟨#[]⟩, .int .i64 0]) (t := 44) ?hr ?_; (case hd => rfl); (case hg => rfl); (case hr => first | (go_simp; done) | (go_simp; rfl)); intro gb hgb w0_ hbox hb; have HF := Aside0.mk (Fr.start HS.out hgb hbox hb); clear hgb hbox hb; obtain ⟨s0, s1, s2, s3, s4, s5⟩ := HF.out.facts; obtain ⟨a0, a1, a2, a3, a4, a5, b0, b1, b2, b3, b4, b5⟩ := HF.out.rfacts)
      | (go_at_call 132; refine (HLe.out _).mono ?_; rintro e w1 ⟨rfl, rfl⟩)
      | (go_at_call 85; refine (data_calls s c g _ (by omega) (by first | exact HF.out.st | exact HF.out.st.alloc _ | exact (HF.out.st.alloc _).alloc _)).mono ?_; rintro e w1 ⟨rfl, hb⟩; have HF := Aside0.mk (Fr.step (by (with_reducible repeat (first | exact HF.out | apply Fr.alloc | apply Fr.drew | apply Fr.drewN))) hb); clear hb; obtain ⟨s0, s1, s2, s3, s4, s5⟩ := HF.out.facts; obtain ⟨a0, a1, a2, a3, a4, a5, b0, b1, b2, b3, b4, b5⟩ := HF.out.rfacts))
    rw [HD.out]
    exact HF.out.ret rfl rfl rfl
def RetB : Option St → World → Ending → World → Prop
  | some s, w, e, w' => e = .returned (.tuple #[.agg #[.int .i64 s.pos, .string s.name, .bool s.fin, .string s.attr, .string s.held, .int .i64 s.read], .bool true]) ∧ Below w.heap.size w w'
  | none, w, e, w' => e = .returned (.tuple #[.agg #[.int .i64 0, .string ⟨#[]⟩, .bool false, .string ⟨#[]⟩, .string ⟨#[]⟩, .int .i64 0], .bool false]) ∧ Below w.heap.size w w'
theorem Fr.retB {w W : World} {gb g : Nat} {s : St} (h : Fr w gb g s W) {s' : St} {f : Func} {a : Act} {n m : Nat} (hr : f.results = #[.cell n 44, .tmp m]) (hd : a.defers = []) (ha : a.tmps.getD n undef = .pointer (some ⟨gb, 0, none⟩)) (hb : a.tmps.getD m undef = .bool true) :
    bodyPost Tryz.prog f (RetB (some s') w) Exit.ret a ((((((W.setCell ⟨gb, 0, none⟩ (.int .i64 s'.pos)).setCell ⟨gb, 1, none⟩ (.string s'.name)).setCell ⟨gb, 2, none⟩ (.bool s'.fin)).setCell ⟨gb, 3, none⟩ (.string s'.attr)).setCell ⟨gb, 4, none⟩ (.string s'.held)).setCell ⟨gb, 5, none⟩ (.int .i64 s'.read)) :=
  bodyPost_ret (results_ct hr a.tmps _ gb 44 _ (0, 0) _ ha (set6 h.res rfl) Tryz.underlying44 rfl (by kernel_rfl)) hd ⟨by rw [hb], below6 h.low h.lo⟩
theorem Fr.retN {w W : World} {gb g : Nat} {s : St} (h : Fr w gb g s W) {f : Func} {a : Act} {n m : Nat} (hr : f.results = #[.cell n 44, .tmp m]) (hd : a.defers = []) (ha : a.tmps.getD n undef = .pointer (some ⟨gb, 0, none⟩)) (hb : a.tmps.getD m undef = .bool false) :
    bodyPost Tryz.prog f (RetB none w) Exit.ret a ((((((W.setCell ⟨gb, 0, none⟩ (.int .i64 0)).setCell ⟨gb, 1, none⟩ (.string ⟨#[]⟩)).setCell ⟨gb, 2, none⟩ (.bool false)).setCell ⟨gb, 3, none⟩ (.string ⟨#[]⟩)).setCell ⟨gb, 4, none⟩ (.string ⟨#[]⟩)).setCell ⟨gb, 5, none⟩ (.int .i64 0)) :=
  bodyPost_ret (results_ct hr a.tmps _ gb 44 _ (0, 0) _ ha (set6 (s := ⟨0, ⟨#[]⟩, false, ⟨#[]⟩, ⟨#[]⟩, 0⟩) h.res rfl) Tryz.underlying44 rfl (by kernel_rfl)) hd ⟨by rw [hb], below6 (s := ⟨0, ⟨#[]⟩, false, ⟨#[]⟩, ⟨#[]⟩, 0⟩) h.low h.lo⟩
set_option maxHeartbeats 1600000 in
theorem between_calls (s : St) (c : Nat) (x : Int) (g : Nat) (w : World) (hc : c < 256) (h : StAt w g s) : Calls Tryz.prog 153 #[.pointer (some ⟨g, 0, none⟩), .int .u8 c, .int .i64 x] w (RetB (betweenS s c x) w) := by
  have hu40 := Tryz.underlying44
  have HS := Aside0.mk h
  clear h
  by_cases q1 : blankN c = true
  · skip
    have HBl := Aside0.mk (fun w => blank_calls c w)
    rw [q1] at HBl
    have HD := Aside0.mk (show betweenS s c x = some (inS s x) by unfold betweenS; rw [if_pos q1])
    clear q1
    go_enter Tryz.func153, Tryz.ntmps153
    go_wp2_with (first
      | ((with_reducible refine gate_dst (N := 6) rfl ?_); refine box_event ?hg (N := 6) ?hd (cs := #[.int .i64 0, .string ⟨#[]⟩, .bool false, .string ⟨#[]⟩, .string ⟨#[]⟩, .int .i64 0]) (t := 44) ?hr ?_; (case hd => rfl); (case hg => rfl); (case hr => first | (go_simp; done) | (go_simp; rfl)); intro gb hgb w0_ hbox hb; have HF := Aside0.mk (Fr.start HS.out hgb hbox hb); clear hgb hbox hb; obtain ⟨s0, s1, s2, s3, s4, s5⟩ := HF.out.facts; obtain ⟨a0, a1, a2, a3, a4, a5, b0, b1, b2, b3, b4, b5⟩ := HF.out.rfacts)
      | (go_at_call 156; refine (HBl.out _).mono ?_; rintro e w1 ⟨rfl, rfl⟩)
      | (go_at_call 159; refine (in_calls s _ g _ (by first | exact HF.out.st | exact HF.out.st.alloc _ | exact (HF.out.st.alloc _).alloc _)).mono ?_; rintro e w1 ⟨rfl, hb⟩; have HF := Aside0.mk (Fr.step (by (with_reducible repeat (first | exact HF.out | apply Fr.alloc | apply Fr.drew | apply Fr.drewN))) hb); clear hb; obtain ⟨s0, s1, s2, s3, s4, s5⟩ := HF.out.facts; obtain ⟨a0, a1, a2, a3, a4, a5, b0, b1, b2, b3, b4, b5⟩ := HF.out.rfacts))
    rw [HD.out]
    exact HF.out.retB rfl rfl rfl rfl
  · skip
    have HBl := Aside0.mk (fun w => blank_calls c w)
    rw [Bool.eq_false_iff.2 q1] at HBl
    by_cases q2 : c = 47
    · skip
      have d47 : ((c : Int) == 47) = true := by rw [beq_iff_eq]; omega
      have HD := Aside0.mk (show betweenS s c x = some (inS s 12) by unfold betweenS; rw [if_neg q1, if_pos q2])
      clear q1 q2
      go_enter Tryz.func153, Tryz.ntmps153
      go_wp2_with (first
        | ((with_reducible refine gate_dst (N := 6) rfl ?_); refine box_event ?hg (N := 6) ?hd (cs := #[.int .i64 0, .string ⟨#[]⟩, .bool false, .string ⟨#[]⟩, .string ⟨#[]⟩, .int .i64 0]) (t := 44) ?hr ?_; (case hd => rfl); (case hg => rfl); (case hr => first | (go_simp; done) | (go_simp; rfl)); intro gb hgb w0_ hbox hb; have HF := Aside0.mk (Fr.start HS.out hgb hbox hb); clear hgb hbox hb; obtain ⟨s0, s1, s2, s3, s4, s5⟩ := HF.out.facts; obtain ⟨a0, a1, a2, a3, a4, a5, b0, b1, b2, b3, b4, b5⟩ := HF.out.rfacts)
        | (go_at_call 156; refine (HBl.out _).mono ?_; rintro e w1 ⟨rfl, rfl⟩)
        | (go_at_call 159; refine (in_calls s _ g _ (by first | exact HF.out.st | exact HF.out.st.alloc _ | exact (HF.out.st.alloc _).alloc _)).mono ?_; rintro e w1 ⟨rfl, hb⟩; have HF := Aside0.mk (Fr.step (by (with_reducible repeat (first | exact HF.out | apply Fr.alloc | apply Fr.drew | apply Fr.drewN))) hb); clear hb; obtain ⟨s0, s1, s2, s3, s4, s5⟩ := HF.out.facts; obtain ⟨a0, a1, a2, a3, a4, a5, b0, b1, b2, b3, b4, b5⟩ := HF.out.rfacts))
      rw [HD.out]
      exact HF.out.retB rfl rfl rfl rfl
    · skip
      have d47 : ((c : Int) == 47) = false := by rw [beq_eq_false_iff_ne]; omega
      by_cases q3 : c = 62
      · skip
        have d62 : ((c : Int) == 62) = true := by rw [beq_iff_eq]; omega
        have HD := Aside0.mk (show betweenS s c x = some (closesS s) by unfold betweenS; rw [if_neg q1, if_neg q2, if_pos q3])
        clear q1 q2 q3
        go_enter Tryz.func153, Tryz.ntmps153
        go_wp2_with (first
          | ((with_reducible refine gate_dst (N := 6) rfl ?_); refine box_event ?hg (N := 6) ?hd (cs := #[.int .i64 0, .string ⟨#[]⟩, .bool false, .string ⟨#[]⟩, .string ⟨#[]⟩, .int .i64 0]) (t := 44) ?hr ?_; (case hd => rfl); (case hg => rfl); (case hr => first | (go_simp; done) | (go_simp; rfl)); intro gb hgb w0_ hbox hb; have HF := Aside0.mk (Fr.start HS.out hgb hbox hb); clear hgb hbox hb; obtain ⟨s0, s1, s2, s3, s4, s5⟩ := HF.out.facts; obtain ⟨a0, a1, a2, a3, a4, a5, b0, b1, b2, b3, b4, b5⟩ := HF.out.rfacts)
          | (go_at_call 156; refine (HBl.out _).mono ?_; rintro e w1 ⟨rfl, rfl⟩)
          | (go_at_call 157; refine (closes_calls s g _ (by first | exact HF.out.st | exact HF.out.st.alloc _ | exact (HF.out.st.alloc _).alloc _)).mono ?_; rintro e w1 ⟨rfl, hb⟩; have HF := Aside0.mk (Fr.step (by (with_reducible repeat (first | exact HF.out | apply Fr.alloc | apply Fr.drew | apply Fr.drewN))) hb); clear hb; obtain ⟨s0, s1, s2, s3, s4, s5⟩ := HF.out.facts; obtain ⟨a0, a1, a2, a3, a4, a5, b0, b1, b2, b3, b4, b5⟩ := HF.out.rfacts))
        rw [HD.out]
        exact HF.out.retB rfl rfl rfl rfl
      · skip
        have d62 : ((c : Int) == 62) = false := by rw [beq_eq_false_iff_ne]; omega
        have HD := Aside0.mk (show betweenS s c x = none by unfold betweenS; rw [if_neg q1, if_neg q2, if_neg q3])
        clear q1 q2 q3
        go_enter Tryz.func153, Tryz.ntmps153
        go_wp2_with (first
          | ((with_reducible refine gate_dst (N := 6) rfl ?_); refine box_event ?hg (N := 6) ?hd (cs := #[.int .i64 0, .string ⟨#[]⟩, .bool false, .string ⟨#[]⟩, .string ⟨#[]⟩, .int .i64 0]) (t := 44) ?hr ?_; (case hd => rfl); (case hg => rfl); (case hr => first | (go_simp; done) | (go_simp; rfl)); intro gb hgb w0_ hbox hb; have HF := Aside0.mk (Fr.start HS.out hgb hbox hb); clear hgb hbox hb; obtain ⟨s0, s1, s2, s3, s4, s5⟩ := HF.out.facts; obtain ⟨a0, a1, a2, a3, a4, a5, b0, b1, b2, b3, b4, b5⟩ := HF.out.rfacts)
          | (go_at_call 156; refine (HBl.out _).mono ?_; rintro e w1 ⟨rfl, rfl⟩))
        rw [HD.out]
        exact HF.out.retN rfl rfl rfl rfl
end Go.Proofs.YtfmcdlbbbmeolaaGreatDoor.Tk
end
section
namespace Go.Proofs.YtfmcdlbbbmeolaaGreatDoor.Tk
open Go.RowKit Go.Proofs.YtfmcdlbbbmeolaaGreatDoor.XK Go.Proofs.YtfmcdlbbbmeolaaGreatDoorW.PrintWords Go.Proofs.YtfmcdlbbbmeolaaGreatDoorW.PrintLast Go.Proofs.YtfmcdlbbbmeolaaGreatDoorW.PrintMore
open Go.Proofs.YtfmcdlbbbmeolaaGreatDoor.Refs (lowN lowByte_calls decL)
attribute [local go_sem ↓] Go.wp_at_zero Go.wp_at_succ
set_option linter.unusedVariables false
set_option linter.unusedSimpArgs false
set_option maxRecDepth 100000
theorem infoTok : (Tryz.prog.info? 41).map (fun i => (i.zero, i.size, i.bytes)) = some (some (.agg #[(.int .i64 0), (.string ⟨#[]⟩), (.string ⟨#[]⟩), (.slice none 0 0), (.bool false)]), 5, 72) := by kernel_rfl
theorem infoAttr : (Tryz.prog.info? 39).map (fun i => (i.zero, i.size, i.bytes)) = some (some (.agg #[(.string ⟨#[]⟩), (.string ⟨#[]⟩)]), 2, 32) := by kernel_rfl
theorem cell_alloc {w : World} {a : Addr} {v : Value} (h : w.cell? a = some v) (o : Obj) : (w.alloc o).cell? a = some v := pw_cell_below ((Below.refl _ _).alloc (Nat.le_refl _) o) h
structure Rd where
  out : List S41
  fr : Nat
  op : Nat
  held : ByteArray
  ats : List S39
  bg : Nat
def decS (s : ByteArray) : ByteArray := ⟨(decL s.data.toList).toArray⟩
def textV (h s : ByteArray) : ByteArray := if kindOf h = 3 then s else if kindOf h = 4 then s else decS s
def textR (p : ByteArray) (r : Rd) (t : Nat) : Rd :=
  if (p.extract r.fr t).toList.isEmpty = true then r else { r with out := r.out ++ [⟨0, ⟨#[]⟩, textV r.held (p.extract r.fr t), [], false⟩] }
def toldR (p : ByteArray) (r : Rd) (t : S41) (i : Nat) : Rd := { textR p r r.op with out := (textR p r r.op).out ++ [t], fr := i + 1 }
def has (nm : ByteArray) (xs : List S39) : Bool := xs.any fun x => x.f0.toList == nm.toList
def keepA (out : List S39) (a : S39) : List S39 := if out.length < 32 ∧ has a.f0 out = false then out ++ [⟨a.f0, decS a.f1⟩] else out
def keptR (ats : List S39) : List S39 := ats.foldl keepA []
def tagT (r : Rd) (s : St) : S41 :=
  if s.pos = 22 then ⟨2, s.held, ⟨#[]⟩, [], false⟩ else if s.fin = true then ⟨2, s.name, ⟨#[]⟩, [], false⟩ else ⟨1, s.name, ⟨#[]⟩, keptR r.ats, s.pos == 12⟩
def tagR (p : ByteArray) (r : Rd) (s : St) (i : Nat) : Rd := toldR p r (tagT r s) i
def comT (p : ByteArray) (r : Rd) (s : St) (i : Nat) : S41 := ⟨3, ⟨#[]⟩, if s.pos = 17 then p.extract (r.op + 4) (i - 2) else p.extract (r.op + 2) i, [], false⟩
def comR (p : ByteArray) (r : Rd) (s : St) (i : Nat) : Rd := toldR p r (comT p r s i) i
def setName (xs : List S39) (nm : ByteArray) : List S39 := xs.set (xs.length - 1) ⟨nm, (rd_T39 xs ((xs.length : Int) - 1)).f1⟩
def setVal (xs : List S39) (v : ByteArray) : List S39 := xs.set (xs.length - 1) ⟨(rd_T39 xs ((xs.length : Int) - 1)).f0, v⟩
def readsR (p : ByteArray) (r : Rd) (s nx : St) (i : Nat) : Rd :=
  if nx.pos = 3 then { r with ats := [] }
  else if nx.pos = 5 then (if s.pos = 5 then { r with ats := setName r.ats nx.attr } else { r with ats := setName (r.ats ++ [⟨⟨#[]⟩, ⟨#[]⟩⟩]) nx.attr })
  else if nx.pos = 10 then (if s.pos = 10 then { r with ats := setVal r.ats (p.extract r.bg (i + 1)) } else { r with ats := setVal r.ats (p.extract i (i + 1)), bg := i })
  else if nx.pos = 8 ∨ nx.pos = 9 then (if s.pos = nx.pos then { r with ats := setVal r.ats (p.extract r.bg (i + 1)) } else { r with ats := setVal r.ats (p.extract (i + 1) (i + 1)), bg := i + 1 })
  else r
def endsB (s : St) : Bool := if s.pos = 3 ∨ s.pos = 4 ∨ s.pos = 5 ∨ s.pos = 6 ∨ s.pos = 7 ∨ s.pos = 10 ∨ s.pos = 11 ∨ s.pos = 12 then true else if s.pos = 22 then decide (s.read = s.held.size) else false
def remarksB (s : St) : Bool := if s.pos = 13 ∨ s.pos = 14 ∨ s.pos = 18 ∨ s.pos = 17 then true else false
def takesR (p : ByteArray) (r : Rd) (s nx : St) (i : Nat) : Rd :=
  if byteAt p (i : Int) = 60 ∧ (nx.pos = 1 ∨ nx.pos = 20) then { r with op := i }
  else if byteAt p (i : Int) = 62 ∧ endsB s = true then { tagR p r s i with held := nx.held }
  else if byteAt p (i : Int) = 62 ∧ remarksB s = true then comR p r s i
  else readsR p r s nx i
def restB (s : St) : Bool := if s.pos = 0 ∨ s.pos = 1 ∨ s.pos = 2 ∨ s.pos = 19 ∨ s.pos = 20 ∨ s.pos = 21 ∨ s.pos = 22 then true else false
def restR (p : ByteArray) (r : Rd) (s : St) : Rd := if restB s = true then textR p r p.size else textR p r r.op
def RdAt (w : World) (base b : Nat) (ok : Nat → Prop) (p : ByteArray) (r : Rd) : Prop :=
  base ≤ b ∧ ∃ v0 v1, w.heap[b]? = some (.cells #[.string p, v0, .int .i64 r.fr, .int .i64 r.op, .string r.held, v1, .int .i64 r.bg] 85 (0, 0)) ∧
    Kd.S k41 41 w base (fun k => ok k ∧ some k ≠ v1.ownBlock) v0 r.out ∧ Kd.R k39 39 w base ok v1 r.ats
def StKeep (w w' : World) : Prop := ∀ (k : Nat) (cs : Array Value), w.heap[k]? = some (.cells cs 44 (0, 0)) → w'.heap[k]? = some (.cells cs 44 (0, 0))
section
variable {w w1 w2 : World} {base b : Nat} {ok : Nat → Prop} {p : ByteArray} {r : Rd}
theorem RdAt.below (h : RdAt w base b ok p r) (hb : Below w.heap.size w w1) : RdAt w1 base b ok p r := by
  obtain ⟨h0, v0, v1, h1, h2, h3⟩ := h
  exact ⟨h0, v0, v1, blk_below h1 hb, Kd.S_below h2 hb, Kd.R_below h3 hb⟩
theorem RdAt.alloc (h : RdAt w base b ok p r) (o : Obj) : RdAt (w.alloc o) base b ok p r := h.below (below_alloc (Below.refl _ _) o)
theorem RdAt.drewN (h : RdAt w base b ok p r) (n : Nat) : RdAt (w.drewN n) base b ok p r := h.below (pw_below_drewN (Below.refl _ _) n)
theorem RdAt.mono {ok' : Nat → Prop} (h : RdAt w base b ok p r) (hok : ∀ k, ok k → ok' k) : RdAt w base b ok' p r := by
  obtain ⟨h0, v0, v1, h1, h2, h3⟩ := h
  exact ⟨h0, v0, v1, h1, Kd.S_mono h2 (fun k hk => ⟨hok k hk.1, hk.2⟩), Kd.R_mono h3 hok⟩
theorem RdAt.old (h : RdAt w base b ok p r) (hb : Below w.heap.size w w1) : RdAt w1 base b (fun k => ok k ∧ k < w.heap.size) p r := by
  obtain ⟨h0, v0, v1, h1, h2, h3⟩ := h
  exact ⟨h0, v0, v1, blk_below h1 hb, Kd.S_mono (Kd.S_old h2 hb) (fun k hk => ⟨⟨hk.1.1, hk.2⟩, hk.1.2⟩), Kd.R_below (Kd.R_mono (Kd.R_bound h3) (fun k hk => ⟨hk.1, hk.2.2.1⟩)) hb⟩
theorem StKeep.refl (w : World) : StKeep w w := fun _ _ h => h
theorem StKeep.trans (h : StKeep w w1) (h2 : StKeep w1 w2) : StKeep w w2 := fun k cs hk => h2 k cs (h k cs hk)
theorem StKeep.below (hb : Below w.heap.size w w1) : StKeep w w1 := fun k cs hk => blk_below hk hb
theorem StKeep.grown {v : Value} {e : Nat} (hg : w.grownBy w1 v.ownBlock) (hty : ∀ k, v.ownBlock = some k → ∃ cells, w.heap[k]? = some (.cells cells e (0, 0))) (he : e ≠ 44) : StKeep w w1 := fun k cs hk => by
  refine blk_grown hk hg (fun e1 => ?_)
  obtain ⟨cells, hc⟩ := hty k e1.symm
  rw [hk] at hc
  injection hc with hc
  injection hc with _ hc
  exact he hc.symm
theorem StKeep.set {g t j : Nat} {cells : Array Value} {u : Value} (hb : w.heap[g]? = some (.cells cells t (0, 0))) (ht : t ≠ 44) : StKeep w (w.setCell ⟨g, j, none⟩ u) := fun k cs hk => by
  refine (Below.heap_setCell w ⟨g, j, none⟩ u k (fun e => ?_)).trans hk
  simp only at e
  subst e
  rw [hk] at hb
  injection hb with hb
  injection hb with _ hb
  exact ht hb.symm
theorem StKeep.st {g : Nat} {s : St} (h : StKeep w w1) (hs : StAt w g s) : StAt w1 g s := h g _ hs
end
end Go.Proofs.YtfmcdlbbbmeolaaGreatDoor.Tk
end
section
namespace Go.Proofs.YtfmcdlbbbmeolaaGreatDoor.Tk
open Go.RowKit Go.Proofs.YtfmcdlbbbmeolaaGreatDoor.XK Go.Proofs.YtfmcdlbbbmeolaaGreatDoorW.PrintWords Go.Proofs.YtfmcdlbbbmeolaaGreatDoorW.PrintLast Go.Proofs.YtfmcdlbbbmeolaaGreatDoorW.PrintMore
open Go.Proofs.YtfmcdlbbbmeolaaGreatDoor.Refs (lowN lowByte_calls decL decode_calls)
set_option linter.unusedVariables false
set_option linter.unusedSimpArgs false
def NatInt (xs : List S39) (nm : ByteArray) (w : World) (e : Ending) (w' : World) : Prop := ∃ r : Int, e = .returned (.int .i64 r) ∧ decide (0 ≤ r) = has nm xs ∧ Below w.heap.size w w'
theorem has_snoc (nm : ByteArray) (xs : List S39) (k : Nat) (h : k < xs.length) : has nm (xs.take (k + 1)) = (has nm (xs.take k) || (xs[k].f0.toList == nm.toList)) := by
  unfold has; rw [List.take_succ_eq_append_getElem h, List.any_append]; simp
set_option maxHeartbeats 800000 in
theorem same_calls (x : S39) (nm : ByteArray) (a : Addr) (w : World) (hc : w.cell? a = some (.string nm)) :
    Calls Tryz.prog 204 #[.agg #[.string x.f0, .string x.f1], .pointer (some a)] w fun e w' => e = .returned (.bool (x.f0.toList == nm.toList)) ∧ Below w.heap.size w w' := by
  have hB : Below w.heap.size w (w.alloc (.cells #[.string x.f0, .string x.f1] 39)) := (Below.refl _ _).alloc (Nat.le_refl _) _
  have HB := Aside0.mk hB
  have hc' := cell_alloc hc (.cells #[.string x.f0, .string x.f1] 39)
  clear hB hc
  go_enter Tryz.func204, Tryz.ntmps204
  go_wp2
  go_ret
  exact ⟨rfl, HB.out⟩
set_option maxHeartbeats 1600000 in
theorem index_calls (xs : List S39) (A : Option Addr) (c : Nat) (nm : ByteArray) (a : Addr) (w : World) (hx : Kd.C k39 w A xs.length xs) (hc : w.cell? a = some (.string nm)) :
    Calls Tryz.prog 230 #[.slice A xs.length c, .func (.func 204) #[] #[.pointer (some a)]] w (NatInt xs nm w) := by
  have HX := Aside0.mk hx
  have HC := Aside0.mk hc
  have HL := Aside0.mk hx.2.1
  have hu48 := Tryz.underlying39
  clear hx hc
  go_enter Tryz.func230, Tryz.ntmps230
  go_wp2
  go_loopw [8] (fun i wr => ∃ k : Nat, k ≤ xs.length ∧ i = .int .i64 k ∧ Aside0 (has nm (xs.take k) = false) ∧ Aside0 (Below w.heap.size w wr))
    (fun i _ => xs.length - (RowKit.intOf i).toNat)
  case atStart => exact ⟨0, Nat.zero_le _, rfl, ⟨rfl⟩, ⟨Below.refl _ _⟩⟩
  case round =>
    obtain ⟨k, hk, rfl, HN, HB⟩ := hrel
    have hm := HL.out
    by_cases hlt : k < xs.length
    · obtain ⟨ad, e, h0, h1⟩ := at_T39 HX.out (k : Int) (by omega) (by omega)
      cases e
      replace h0 := pw_cell_below HB.out h0
      replace h1 := pw_cell_below HB.out h1
      simp only [Int.toNat_natCast] at h0 h1
      obtain ⟨x, hxx⟩ : ∃ x, rd_T39 xs (k : Int) = x := ⟨_, rfl⟩
      rw [hxx] at h0 h1
      have HX1 := Aside0.mk (show xs[k] = x by rw [← hxx]; simp [rd_T39, List.getD_eq_getElem?_getD, List.getElem?_eq_getElem hlt])
      have HC1 := Aside0.mk (pw_cell_below HB.out HC.out)
      clear hxx
      by_cases hq : (x.f0.toList == nm.toList) = true
      · have HS := Aside0.mk (same_calls x nm a wr HC1.out)
        rw [hq] at HS
        have HQ := Aside0.mk hq
        clear hq
        go_wp2_with (go_at_call 204; refine HS.out.mono ?_; rintro e w2 ⟨rfl, hb2⟩)
        go_ret
        refine ⟨(k : Int), rfl, ?_, HB.out.trans (hb2.mono HB.out.size)⟩
        have hh : has nm xs = true := by
          unfold has
          rw [List.any_eq_true]
          exact ⟨xs[k], List.getElem_mem _, by rw [HX1.out]; exact HQ.out⟩
        rw [hh]; simp
      · have hq : (x.f0.toList == nm.toList) = false := by simpa using hq
        have HS := Aside0.mk (same_calls x nm a wr HC1.out)
        rw [hq] at HS
        have HQ := Aside0.mk hq
        clear hq
        go_wp2_with (go_at_call 204; refine HS.out.mono ?_; rintro e w2 ⟨rfl, hb2⟩)
        have HB2 := Aside0.mk (HB.out.trans (hb2.mono HB.out.size))
        have HN2 := Aside0.mk (show has nm (xs.take (k + 1)) = false by rw [has_snoc nm xs k hlt, HN.out, HX1.out, HQ.out]; rfl)
        clear hb2
        go_roundw
        case rel => exact ⟨k + 1, by omega, by go_num, HN2, HB2⟩
        case measure => simp [RowKit.intOf]; omega
    · have HN2 := Aside0.mk (show has nm xs = false by have := HN.out; rwa [List.take_of_length_le (by omega)] at this)
      go_wp2
      go_ret
      exact ⟨-1, rfl, by rw [HN2.out]; rfl, HB.out⟩
theorem contains_calls (xs : List S39) (A : Option Addr) (c : Nat) (nm : ByteArray) (a : Addr) (w : World) (hx : Kd.C k39 w A xs.length xs) (hc : w.cell? a = some (.string nm)) :
    Calls Tryz.prog 205 #[.slice A xs.length c, .func (.func 204) #[] #[.pointer (some a)]] w fun e w' => e = .returned (.bool (has nm xs)) ∧ Below w.heap.size w w' := by
  have HI := Aside0.mk (index_calls xs A c nm a w hx hc)
  clear hx hc
  go_enter Tryz.func205, Tryz.ntmps205
  go_wp2_with (go_at_call 230; refine HI.out.mono ?_; rintro e w2 ⟨r, rfl, hr, hb2⟩; have HR := Aside0.mk hr; clear hr)
  go_ret
  refine ⟨?_, hb2⟩
  rw [← HR.out]; rfl
theorem keep_snoc (xs : List S39) (k : Nat) (h : k < xs.length) : keptR (xs.take (k + 1)) = keepA (keptR (xs.take k)) xs[k] := by
  unfold keptR; rw [List.take_succ_eq_append_getElem h, List.foldl_append]; rfl
theorem keep_len (xs : List S39) : (keptR xs).length ≤ 32 := by
  have h : ∀ (xs acc : List S39), acc.length ≤ 32 → (xs.foldl keepA acc).length ≤ 32 := by
    intro xs
    induction xs with
    | nil => intro acc h; exact h
    | cons x xs ih =>
      intro acc h
      refine ih _ ?_
      unfold keepA
      split
      · rw [List.length_append, List.length_singleton]; omega
      · exact h
  exact h xs [] (by simp)
end Go.Proofs.YtfmcdlbbbmeolaaGreatDoor.Tk
end
