/- Laid by xprint.py, a program of this session over the kit's print: for each Go function one Lean function of the same answers, and the walk that shows it. -/
import Derived.Test.YtfncppekjgbedaaDoorXU0
namespace Go.Proofs.YtfncppekjgbedaaDoor.XU
open Go.RowKit Go.Proofs.YtfncppekjgbedaaDoor.Ext Go.Proofs.YtfncppekjgbedaaDoor.Utf Go.Proofs.YtfncppekjgbedaaDoorW.PrintWords Go.Proofs.YtfncppekjgbedaaDoorW.PrintLast Go.Proofs.YtfncppekjgbedaaDoorW.PrintMore
attribute [local go_sem] max2_int min2_int max_two min_two max_three min_three max_four min_four   -- for this text's walks alone
set_option linter.unusedVariables false
set_option linter.unusedSimpArgs false

-- NOT PRINTED: function 35 (utf_LowerByte)

-- NOT PRINTED: function 22 (utf_Letter)

-- NOT PRINTED: function 31 (utf_Digit)

-- NOT PRINTED: function 43 (bytealg_IndexByteString)

-- NOT PRINTED: function 38 (stringslite_IndexByte)

-- NOT PRINTED: function 32 (strings_IndexByte)

-- NOT PRINTED: function 20 (url_of)

-- NOT PRINTED: function 33 (strings_NewReplacer)

-- NOT PRINTED: function 47 (atomic_LoadUint32)

-- NOT PRINTED: function 44 (atomic_Bool_Load)

-- NOT PRINTED: function 59 (race_Disable)

-- NOT PRINTED: function 60 (atomic_CompareAndSwapInt32)

-- NOT PRINTED: function 61 (race_Enable)

-- NOT PRINTED: function 62 (race_Acquire)

-- NOT PRINTED: function 65 (atomic_AddInt32)

-- NOT PRINTED: function 69 (sync_runtime_canSpin)

-- NOT PRINTED: function 70 (sync_runtime_doSpin)

-- NOT PRINTED: function 71 (sync_throw)

-- NOT PRINTED: function 72 (sync_runtime_nanotime)

-- NOT PRINTED: function 73 (sync_runtime_SemacquireMutex)

-- NOT PRINTED: function 63 (sync_Mutex_lockSlow)

-- NOT PRINTED: function 53 (sync_Mutex_Lock_53)

-- NOT PRINTED: function 48 (sync_Mutex_Lock_48)

-- NOT PRINTED: function 64 (race_ReleaseMerge)

-- NOT PRINTED: function 74 (sync_fatal)

-- NOT PRINTED: function 75 (sync_runtime_Semrelease)

-- NOT PRINTED: function 66 (sync_Mutex_unlockSlow)

-- NOT PRINTED: function 54 (sync_Mutex_Unlock_54)

-- NOT PRINTED: function 49 (sync_Mutex_Unlock_49)

-- NOT PRINTED: function 55 (atomic_StoreUint32)

-- NOT PRINTED: function 56 (atomic_b32)

-- NOT PRINTED: function 50 (atomic_Bool_Store)

-- NOT PRINTED: function 45 (sync_Once_doSlow)

-- NOT PRINTED: function 39 (sync_Once_Do)

-- NOT PRINTED: function 76 (stringslite_HasPrefix)

-- NOT PRINTED: function 67 (strings_HasPrefix)

-- NOT PRINTED: function 68 (strings_longestCommonSuffix)

-- NOT PRINTED: function 57 (strings_makeStringFinder)

-- NOT PRINTED: function 51 (strings_makeSingleStringReplacer)

-- NOT PRINTED: function 58 (strings_trieNode_add)

-- NOT PRINTED: function 52 (strings_makeGenericReplacer)

-- NOT PRINTED: function 46 (strings_Replacer_build)

-- NOT PRINTED: function 40 (strings_Replacer_buildOnce)

-- NOT PRINTED: function 34 (strings_Replacer_Replace)

-- NOT PRINTED: function 21 (url_drop)

-- NOT PRINTED: function 23 (url_set_has)

-- NOT PRINTED: function 24 (utf_Lower)

-- GIVEN BY HAND: function 11 (url_Scheme)

-- NOT PRINTED: function 41 (utf8_decodeRuneInStringSlow)

-- NOT PRINTED: function 36 (utf8_DecodeRuneInString)

-- NOT PRINTED: function 27 (utf_sign)

-- NOT PRINTED: function 42 (abi_NoEscape)

-- NOT PRINTED: function 37 (strings_Builder_copyCheck)

-- NOT PRINTED: function 28 (strings_Builder_WriteString)

-- NOT PRINTED: function 29 (strings_Builder_String)

-- NOT PRINTED: function 17 (utf_Norm)

-- NOT PRINTED: function 18 (url_allowed)

-- NOT PRINTED: function 30 (strings_Builder_WriteByte)

-- NOT PRINTED: function 19 (url_written)

-- GIVEN BY HAND: function 9 (url_Start)

-- GIVEN BY HAND: function 10 (url_Part)

/-! ### stolelaw0_Num: function 16 -/
def stolelaw0_Num.f (a0 : Int) : Option (Int) := some a0
set_option maxHeartbeats 8000000 in
set_option maxRecDepth 100000 in
theorem stolelaw0_Num.calls (a0 : Int) (r : Int) (w : World) (h : stolelaw0_Num.f a0 = some r) :
  Calls Tryd.prog 16 #[.int .i64 a0] w fun e w' => e = .returned (.int .i64 r) ∧ Drawn0 w w' := by
 have H : (some a0) = some r := h
 clear h
 obtain rfl := Option.some.inj H
 go_enter Tryd.func16, Tryd.ntmps16
 go_wp2
 go_ret
 exact ⟨by first | rfl | (simp; done) | (simp [*]; done), by repeat (first | exact Drawn0.refl _ | apply Drawn0.step)⟩

/-! ### stolelaw9_awake: function 8 -/
def stolelaw9_awake.f  : Option (Bool) := (url_Scheme.f (⟨#[32, 74, 97, 118, 97, 9, 83, 99, 114, 105, 112, 116, 58, 120]⟩ : ByteArray)).bind fun bt101 => ((url_Scheme.f (⟨#[97, 47, 98, 58, 99]⟩ : ByteArray)).bind fun bt103 => (if bt101.1.toList = ([106, 97, 118, 97, 115, 99, 114, 105, 112, 116] : List UInt8) then (if bt101.2 = true then (if bt103.2 = true then (some false) else ((url_Start.f (⟨#[106, 97, 118, 97, 115, 99, 114, 105, 112, 116, 58, 120]⟩ : ByteArray)).bind fun t105 => (if t105.toList = ([35, 90, 103, 111, 116, 109, 112, 108, 90] : List UInt8) then ((url_Start.f (⟨#[72, 84, 84, 80, 58, 47, 47, 97, 32, 98]⟩ : ByteArray)).bind fun t106 => (if t106.toList = ([72, 84, 84, 80, 58, 47, 47, 97, 37, 50, 48, 98] : List UInt8) then ((url_Part.f (⟨#[97, 47, 98, 195, 169]⟩ : ByteArray)).bind fun t107 => (if t107.toList = ([97, 37, 50, 70, 98, 37, 67, 51, 37, 65, 57] : List UInt8) then ((stolelaw0_Num.f 0).bind fun t108 => (some (t108 == 0))) else (some false))) else (some false))) else (some false)))) else (some false)) else (some false)))
set_option maxHeartbeats 8000000 in
set_option maxRecDepth 100000 in
theorem stolelaw9_awake.calls  (r : Bool) (w : World) (hT : Tabs w) (h : stolelaw9_awake.f  = some r) :
  Calls Tryd.prog 8 #[] w fun e w' => e = .returned (.bool r) ∧ Below w.heap.size w w' := by
 have HT := Aside0.mk hT
 clear hT
 have HB := Aside0.mk (Below.refl w.heap.size w)
 have H : ((url_Scheme.f (⟨#[32, 74, 97, 118, 97, 9, 83, 99, 114, 105, 112, 116, 58, 120]⟩ : ByteArray)).bind fun bt101 => ((url_Scheme.f (⟨#[97, 47, 98, 58, 99]⟩ : ByteArray)).bind fun bt103 => (if bt101.1.toList = ([106, 97, 118, 97, 115, 99, 114, 105, 112, 116] : List UInt8) then (if bt101.2 = true then (if bt103.2 = true then (some false) else ((url_Start.f (⟨#[106, 97, 118, 97, 115, 99, 114, 105, 112, 116, 58, 120]⟩ : ByteArray)).bind fun t105 => (if t105.toList = ([35, 90, 103, 111, 116, 109, 112, 108, 90] : List UInt8) then ((url_Start.f (⟨#[72, 84, 84, 80, 58, 47, 47, 97, 32, 98]⟩ : ByteArray)).bind fun t106 => (if t106.toList = ([72, 84, 84, 80, 58, 47, 47, 97, 37, 50, 48, 98] : List UInt8) then ((url_Part.f (⟨#[97, 47, 98, 195, 169]⟩ : ByteArray)).bind fun t107 => (if t107.toList = ([97, 37, 50, 70, 98, 37, 67, 51, 37, 65, 57] : List UInt8) then ((stolelaw0_Num.f 0).bind fun t108 => (some (t108 == 0))) else (some false))) else (some false))) else (some false)))) else (some false)) else (some false)))) = some r := h
 clear h
 replace H := Option.bind_eq_some_iff.mp H
 obtain ⟨⟨t101, t102⟩, A10, H⟩ := H
 replace H : ((url_Scheme.f (⟨#[97, 47, 98, 58, 99]⟩ : ByteArray)).bind fun bt103 => (if t101.toList = ([106, 97, 118, 97, 115, 99, 114, 105, 112, 116] : List UInt8) then (if t102 = true then (if bt103.2 = true then (some false) else ((url_Start.f (⟨#[106, 97, 118, 97, 115, 99, 114, 105, 112, 116, 58, 120]⟩ : ByteArray)).bind fun t105 => (if t105.toList = ([35, 90, 103, 111, 116, 109, 112, 108, 90] : List UInt8) then ((url_Start.f (⟨#[72, 84, 84, 80, 58, 47, 47, 97, 32, 98]⟩ : ByteArray)).bind fun t106 => (if t106.toList = ([72, 84, 84, 80, 58, 47, 47, 97, 37, 50, 48, 98] : List UInt8) then ((url_Part.f (⟨#[97, 47, 98, 195, 169]⟩ : ByteArray)).bind fun t107 => (if t107.toList = ([97, 37, 50, 70, 98, 37, 67, 51, 37, 65, 57] : List UInt8) then ((stolelaw0_Num.f 0).bind fun t108 => (some (t108 == 0))) else (some false))) else (some false))) else (some false)))) else (some false)) else (some false))) = some r := H
 have A1 := Aside0.mk A10
 clear A10
 replace H := Option.bind_eq_some_iff.mp H
 obtain ⟨⟨t103, t104⟩, A20, H⟩ := H
 replace H : (if t101.toList = ([106, 97, 118, 97, 115, 99, 114, 105, 112, 116] : List UInt8) then (if t102 = true then (if t104 = true then (some false) else ((url_Start.f (⟨#[106, 97, 118, 97, 115, 99, 114, 105, 112, 116, 58, 120]⟩ : ByteArray)).bind fun t105 => (if t105.toList = ([35, 90, 103, 111, 116, 109, 112, 108, 90] : List UInt8) then ((url_Start.f (⟨#[72, 84, 84, 80, 58, 47, 47, 97, 32, 98]⟩ : ByteArray)).bind fun t106 => (if t106.toList = ([72, 84, 84, 80, 58, 47, 47, 97, 37, 50, 48, 98] : List UInt8) then ((url_Part.f (⟨#[97, 47, 98, 195, 169]⟩ : ByteArray)).bind fun t107 => (if t107.toList = ([97, 37, 50, 70, 98, 37, 67, 51, 37, 65, 57] : List UInt8) then ((stolelaw0_Num.f 0).bind fun t108 => (some (t108 == 0))) else (some false))) else (some false))) else (some false)))) else (some false)) else (some false)) = some r := H
 have A2 := Aside0.mk A20
 clear A20
 by_cases c3 : t101.toList = ([106, 97, 118, 97, 115, 99, 114, 105, 112, 116] : List UInt8)
 ·rw [if_pos c3] at H
  have c3b0 : (t101.toList == ([106, 97, 118, 97, 115, 99, 114, 105, 112, 116] : List UInt8)) = true := beq_iff_eq.mpr c3
  have c3b1 : (t101.toList != ([106, 97, 118, 97, 115, 99, 114, 105, 112, 116] : List UInt8)) = false := bne_eq_false_iff_eq.mpr c3
  clear c3
  by_cases c4 : t102 = true
  ·subst c4
   have H1 : (if t104 = true then (some false) else ((url_Start.f (⟨#[106, 97, 118, 97, 115, 99, 114, 105, 112, 116, 58, 120]⟩ : ByteArray)).bind fun t105 => (if t105.toList = ([35, 90, 103, 111, 116, 109, 112, 108, 90] : List UInt8) then ((url_Start.f (⟨#[72, 84, 84, 80, 58, 47, 47, 97, 32, 98]⟩ : ByteArray)).bind fun t106 => (if t106.toList = ([72, 84, 84, 80, 58, 47, 47, 97, 37, 50, 48, 98] : List UInt8) then ((url_Part.f (⟨#[97, 47, 98, 195, 169]⟩ : ByteArray)).bind fun t107 => (if t107.toList = ([97, 37, 50, 70, 98, 37, 67, 51, 37, 65, 57] : List UInt8) then ((stolelaw0_Num.f 0).bind fun t108 => (some (t108 == 0))) else (some false))) else (some false))) else (some false)))) = some r := by rw [if_pos rfl] at H; exact H
   clear H
   have H := H1
   clear H1
   by_cases c5 : t104 = true
   ·subst c5
    have H1 : (some false) = some r := by rw [if_pos rfl] at H; exact H
    clear H
    have H := H1
    clear H1
    obtain rfl := Option.some.inj H
    go_enter Tryd.func8, Tryd.ntmps8
    go_wp2_with (first | ((with_reducible refine gate_callee (f := 11) rfl ?_); refine goesL_ (some 6) rfl rfl Tryd.func11 (by kernel_rfl) rfl #[.string (⟨#[32, 74, 97, 118, 97, 9, 83, 99, 114, 105, 112, 116, 58, 120]⟩ : ByteArray)] rfl (by (try simp only [List.map_toArray, List.map_cons, List.map_nil]); first | done | rfl | (simp only [List.length_drop, List.length_take]; rfl)) ?_; (with_reducible refine (url_Scheme.calls (⟨#[32, 74, 97, 118, 97, 9, 83, 99, 114, 105, 112, 116, 58, 120]⟩ : ByteArray) t101 true _ A1.out).mono ?_); rintro e w6 ⟨rfl, hb⟩; refine ⟨_, rfl, ?_⟩; have n0_ := Aside0.mk (below_step (by repeat (first | (with_reducible first | exact HB.out | apply below_alloc | apply pw_below_drewN | apply below_drew1) | exact HB.out)) hb); clear HB; have HB := n0_; clear n0_; (try clear hb); (try clear hb2); (try clear hk); (try clear hi)) | ((with_reducible refine gate_callee (f := 11) rfl ?_); refine goesL_ (some 10) rfl rfl Tryd.func11 (by kernel_rfl) rfl #[.string (⟨#[97, 47, 98, 58, 99]⟩ : ByteArray)] rfl (by (try simp only [List.map_toArray, List.map_cons, List.map_nil]); first | done | rfl | (simp only [List.length_drop, List.length_take]; rfl)) ?_; (with_reducible refine (url_Scheme.calls (⟨#[97, 47, 98, 58, 99]⟩ : ByteArray) t103 true _ A2.out).mono ?_); rintro e w7 ⟨rfl, hb⟩; refine ⟨_, rfl, ?_⟩; have n0_ := Aside0.mk (below_step (by repeat (first | (with_reducible first | exact HB.out | apply below_alloc | apply pw_below_drewN | apply below_drew1) | exact HB.out)) hb); clear HB; have HB := n0_; clear n0_; (try clear hb); (try clear hb2); (try clear hk); (try clear hi)))
    go_ret
    exact ⟨by first | rfl | (simp [errW_none, errW_some] <;> rfl) | (simp [*, errW_none, errW_some] <;> rfl) | (rw [ne_nil_not]; rfl), by repeat (first | (with_reducible first | exact HB.out | apply below_alloc | apply pw_below_drewN | apply below_drew1) | exact HB.out)⟩
   ·replace c5 := Bool.eq_false_iff.mpr c5
    subst c5
    have H1 : ((url_Start.f (⟨#[106, 97, 118, 97, 115, 99, 114, 105, 112, 116, 58, 120]⟩ : ByteArray)).bind fun t105 => (if t105.toList = ([35, 90, 103, 111, 116, 109, 112, 108, 90] : List UInt8) then ((url_Start.f (⟨#[72, 84, 84, 80, 58, 47, 47, 97, 32, 98]⟩ : ByteArray)).bind fun t106 => (if t106.toList = ([72, 84, 84, 80, 58, 47, 47, 97, 37, 50, 48, 98] : List UInt8) then ((url_Part.f (⟨#[97, 47, 98, 195, 169]⟩ : ByteArray)).bind fun t107 => (if t107.toList = ([97, 37, 50, 70, 98, 37, 67, 51, 37, 65, 57] : List UInt8) then ((stolelaw0_Num.f 0).bind fun t108 => (some (t108 == 0))) else (some false))) else (some false))) else (some false))) = some r := by rw [if_neg (show ¬ (false = true) by decide)] at H; exact H
    clear H
    have H := H1
    clear H1
    replace H := Option.bind_eq_some_iff.mp H
    obtain ⟨t105, A80, H⟩ := H
    replace H : (if t105.toList = ([35, 90, 103, 111, 116, 109, 112, 108, 90] : List UInt8) then ((url_Start.f (⟨#[72, 84, 84, 80, 58, 47, 47, 97, 32, 98]⟩ : ByteArray)).bind fun t106 => (if t106.toList = ([72, 84, 84, 80, 58, 47, 47, 97, 37, 50, 48, 98] : List UInt8) then ((url_Part.f (⟨#[97, 47, 98, 195, 169]⟩ : ByteArray)).bind fun t107 => (if t107.toList = ([97, 37, 50, 70, 98, 37, 67, 51, 37, 65, 57] : List UInt8) then ((stolelaw0_Num.f 0).bind fun t108 => (some (t108 == 0))) else (some false))) else (some false))) else (some false)) = some r := H
    have A8 := Aside0.mk A80
    clear A80
    by_cases c9 : t105.toList = ([35, 90, 103, 111, 116, 109, 112, 108, 90] : List UInt8)
    ·rw [if_pos c9] at H
     have c9b0 : (t105.toList == ([35, 90, 103, 111, 116, 109, 112, 108, 90] : List UInt8)) = true := beq_iff_eq.mpr c9
     have c9b1 : (t105.toList != ([35, 90, 103, 111, 116, 109, 112, 108, 90] : List UInt8)) = false := bne_eq_false_iff_eq.mpr c9
     clear c9
     replace H := Option.bind_eq_some_iff.mp H
     obtain ⟨t106, A100, H⟩ := H
     replace H : (if t106.toList = ([72, 84, 84, 80, 58, 47, 47, 97, 37, 50, 48, 98] : List UInt8) then ((url_Part.f (⟨#[97, 47, 98, 195, 169]⟩ : ByteArray)).bind fun t107 => (if t107.toList = ([97, 37, 50, 70, 98, 37, 67, 51, 37, 65, 57] : List UInt8) then ((stolelaw0_Num.f 0).bind fun t108 => (some (t108 == 0))) else (some false))) else (some false)) = some r := H
     have A10 := Aside0.mk A100
     clear A100
     by_cases c11 : t106.toList = ([72, 84, 84, 80, 58, 47, 47, 97, 37, 50, 48, 98] : List UInt8)
     ·rw [if_pos c11] at H
      have c11b0 : (t106.toList == ([72, 84, 84, 80, 58, 47, 47, 97, 37, 50, 48, 98] : List UInt8)) = true := beq_iff_eq.mpr c11
      have c11b1 : (t106.toList != ([72, 84, 84, 80, 58, 47, 47, 97, 37, 50, 48, 98] : List UInt8)) = false := bne_eq_false_iff_eq.mpr c11
      clear c11
      replace H := Option.bind_eq_some_iff.mp H
      obtain ⟨t107, A120, H⟩ := H
      replace H : (if t107.toList = ([97, 37, 50, 70, 98, 37, 67, 51, 37, 65, 57] : List UInt8) then ((stolelaw0_Num.f 0).bind fun t108 => (some (t108 == 0))) else (some false)) = some r := H
      have A12 := Aside0.mk A120
      clear A120
      by_cases c13 : t107.toList = ([97, 37, 50, 70, 98, 37, 67, 51, 37, 65, 57] : List UInt8)
      ·rw [if_pos c13] at H
       have c13b0 : (t107.toList == ([97, 37, 50, 70, 98, 37, 67, 51, 37, 65, 57] : List UInt8)) = true := beq_iff_eq.mpr c13
       have c13b1 : (t107.toList != ([97, 37, 50, 70, 98, 37, 67, 51, 37, 65, 57] : List UInt8)) = false := bne_eq_false_iff_eq.mpr c13
       clear c13
       replace H := Option.bind_eq_some_iff.mp H
       obtain ⟨t108, A140, H⟩ := H
       replace H : (some (t108 == 0)) = some r := H
       have A14 := Aside0.mk A140
       clear A140
       obtain rfl := Option.some.inj H
       go_enter Tryd.func8, Tryd.ntmps8
       go_wp2_with (first | ((with_reducible refine gate_callee (f := 11) rfl ?_); refine goesL_ (some 6) rfl rfl Tryd.func11 (by kernel_rfl) rfl #[.string (⟨#[32, 74, 97, 118, 97, 9, 83, 99, 114, 105, 112, 116, 58, 120]⟩ : ByteArray)] rfl (by (try simp only [List.map_toArray, List.map_cons, List.map_nil]); first | done | rfl | (simp only [List.length_drop, List.length_take]; rfl)) ?_; (with_reducible refine (url_Scheme.calls (⟨#[32, 74, 97, 118, 97, 9, 83, 99, 114, 105, 112, 116, 58, 120]⟩ : ByteArray) t101 true _ A1.out).mono ?_); rintro e w15 ⟨rfl, hb⟩; refine ⟨_, rfl, ?_⟩; have n0_ := Aside0.mk (below_step (by repeat (first | (with_reducible first | exact HB.out | apply below_alloc | apply pw_below_drewN | apply below_drew1) | exact HB.out)) hb); clear HB; have HB := n0_; clear n0_; (try clear hb); (try clear hb2); (try clear hk); (try clear hi)) | ((with_reducible refine gate_callee (f := 11) rfl ?_); refine goesL_ (some 10) rfl rfl Tryd.func11 (by kernel_rfl) rfl #[.string (⟨#[97, 47, 98, 58, 99]⟩ : ByteArray)] rfl (by (try simp only [List.map_toArray, List.map_cons, List.map_nil]); first | done | rfl | (simp only [List.length_drop, List.length_take]; rfl)) ?_; (with_reducible refine (url_Scheme.calls (⟨#[97, 47, 98, 58, 99]⟩ : ByteArray) t103 false _ A2.out).mono ?_); rintro e w16 ⟨rfl, hb⟩; refine ⟨_, rfl, ?_⟩; have n0_ := Aside0.mk (below_step (by repeat (first | (with_reducible first | exact HB.out | apply below_alloc | apply pw_below_drewN | apply below_drew1) | exact HB.out)) hb); clear HB; have HB := n0_; clear n0_; (try clear hb); (try clear hb2); (try clear hk); (try clear hi)) | (go_at_call 9; (with_reducible refine (url_Start.calls (⟨#[106, 97, 118, 97, 115, 99, 114, 105, 112, 116, 58, 120]⟩ : ByteArray) t105 _ (tabs_below HT.out (by repeat (first | (with_reducible first | exact HB.out | apply below_alloc | apply pw_below_drewN | apply below_drew1) | exact HB.out))) A8.out).mono ?_); rintro e w17 ⟨rfl, hb⟩; have n0_ := Aside0.mk (below_step (by repeat (first | (with_reducible first | exact HB.out | apply below_alloc | apply pw_below_drewN | apply below_drew1) | exact HB.out)) hb); clear HB; have HB := n0_; clear n0_; (try clear hb); (try clear hb2); (try clear hk); (try clear hi)) | (go_at_call 9; (with_reducible refine (url_Start.calls (⟨#[72, 84, 84, 80, 58, 47, 47, 97, 32, 98]⟩ : ByteArray) t106 _ (tabs_below HT.out (by repeat (first | (with_reducible first | exact HB.out | apply below_alloc | apply pw_below_drewN | apply below_drew1) | exact HB.out))) A10.out).mono ?_); rintro e w18 ⟨rfl, hb⟩; have n0_ := Aside0.mk (below_step (by repeat (first | (with_reducible first | exact HB.out | apply below_alloc | apply pw_below_drewN | apply below_drew1) | exact HB.out)) hb); clear HB; have HB := n0_; clear n0_; (try clear hb); (try clear hb2); (try clear hk); (try clear hi)) | (go_at_call 10; (with_reducible refine (url_Part.calls (⟨#[97, 47, 98, 195, 169]⟩ : ByteArray) t107 _ (tabs_below HT.out (by repeat (first | (with_reducible first | exact HB.out | apply below_alloc | apply pw_below_drewN | apply below_drew1) | exact HB.out))) A12.out).mono ?_); rintro e w19 ⟨rfl, hb⟩; have n0_ := Aside0.mk (below_step (by repeat (first | (with_reducible first | exact HB.out | apply below_alloc | apply pw_below_drewN | apply below_drew1) | exact HB.out)) hb); clear HB; have HB := n0_; clear n0_; (try clear hb); (try clear hb2); (try clear hk); (try clear hi)) | (go_at_call 16; (with_reducible refine (stolelaw0_Num.calls 0 t108 _ A14.out).mono ?_); rintro e w' ⟨rfl, ⟨nd, rfl⟩⟩))
       go_ret
       exact ⟨by first | rfl | (simp [errW_none, errW_some] <;> rfl) | (simp [*, errW_none, errW_some] <;> rfl) | (rw [ne_nil_not]; rfl), by repeat (first | (with_reducible first | exact HB.out | apply below_alloc | apply pw_below_drewN | apply below_drew1) | exact HB.out)⟩
      ·rw [if_neg c13] at H
       have c13b0 : (t107.toList == ([97, 37, 50, 70, 98, 37, 67, 51, 37, 65, 57] : List UInt8)) = false := beq_eq_false_iff_ne.mpr c13
       have c13b1 : (t107.toList != ([97, 37, 50, 70, 98, 37, 67, 51, 37, 65, 57] : List UInt8)) = true := bne_iff_ne.mpr c13
       obtain rfl := Option.some.inj H
       go_enter Tryd.func8, Tryd.ntmps8
       go_wp2_with (first | ((with_reducible refine gate_callee (f := 11) rfl ?_); refine goesL_ (some 6) rfl rfl Tryd.func11 (by kernel_rfl) rfl #[.string (⟨#[32, 74, 97, 118, 97, 9, 83, 99, 114, 105, 112, 116, 58, 120]⟩ : ByteArray)] rfl (by (try simp only [List.map_toArray, List.map_cons, List.map_nil]); first | done | rfl | (simp only [List.length_drop, List.length_take]; rfl)) ?_; (with_reducible refine (url_Scheme.calls (⟨#[32, 74, 97, 118, 97, 9, 83, 99, 114, 105, 112, 116, 58, 120]⟩ : ByteArray) t101 true _ A1.out).mono ?_); rintro e w20 ⟨rfl, hb⟩; refine ⟨_, rfl, ?_⟩; have n0_ := Aside0.mk (below_step (by repeat (first | (with_reducible first | exact HB.out | apply below_alloc | apply pw_below_drewN | apply below_drew1) | exact HB.out)) hb); clear HB; have HB := n0_; clear n0_; (try clear hb); (try clear hb2); (try clear hk); (try clear hi)) | ((with_reducible refine gate_callee (f := 11) rfl ?_); refine goesL_ (some 10) rfl rfl Tryd.func11 (by kernel_rfl) rfl #[.string (⟨#[97, 47, 98, 58, 99]⟩ : ByteArray)] rfl (by (try simp only [List.map_toArray, List.map_cons, List.map_nil]); first | done | rfl | (simp only [List.length_drop, List.length_take]; rfl)) ?_; (with_reducible refine (url_Scheme.calls (⟨#[97, 47, 98, 58, 99]⟩ : ByteArray) t103 false _ A2.out).mono ?_); rintro e w21 ⟨rfl, hb⟩; refine ⟨_, rfl, ?_⟩; have n0_ := Aside0.mk (below_step (by repeat (first | (with_reducible first | exact HB.out | apply below_alloc | apply pw_below_drewN | apply below_drew1) | exact HB.out)) hb); clear HB; have HB := n0_; clear n0_; (try clear hb); (try clear hb2); (try clear hk); (try clear hi)) | (go_at_call 9; (with_reducible refine (url_Start.calls (⟨#[106, 97, 118, 97, 115, 99, 114, 105, 112, 116, 58, 120]⟩ : ByteArray) t105 _ (tabs_below HT.out (by repeat (first | (with_reducible first | exact HB.out | apply below_alloc | apply pw_below_drewN | apply below_drew1) | exact HB.out))) A8.out).mono ?_); rintro e w22 ⟨rfl, hb⟩; have n0_ := Aside0.mk (below_step (by repeat (first | (with_reducible first | exact HB.out | apply below_alloc | apply pw_below_drewN | apply below_drew1) | exact HB.out)) hb); clear HB; have HB := n0_; clear n0_; (try clear hb); (try clear hb2); (try clear hk); (try clear hi)) | (go_at_call 9; (with_reducible refine (url_Start.calls (⟨#[72, 84, 84, 80, 58, 47, 47, 97, 32, 98]⟩ : ByteArray) t106 _ (tabs_below HT.out (by repeat (first | (with_reducible first | exact HB.out | apply below_alloc | apply pw_below_drewN | apply below_drew1) | exact HB.out))) A10.out).mono ?_); rintro e w23 ⟨rfl, hb⟩; have n0_ := Aside0.mk (below_step (by repeat (first | (with_reducible first | exact HB.out | apply below_alloc | apply pw_below_drewN | apply below_drew1) | exact HB.out)) hb); clear HB; have HB := n0_; clear n0_; (try clear hb); (try clear hb2); (try clear hk); (try clear hi)) | (go_at_call 10; (with_reducible refine (url_Part.calls (⟨#[97, 47, 98, 195, 169]⟩ : ByteArray) t107 _ (tabs_below HT.out (by repeat (first | (with_reducible first | exact HB.out | apply below_alloc | apply pw_below_drewN | apply below_drew1) | exact HB.out))) A12.out).mono ?_); rintro e w24 ⟨rfl, hb⟩; have n0_ := Aside0.mk (below_step (by repeat (first | (with_reducible first | exact HB.out | apply below_alloc | apply pw_below_drewN | apply below_drew1) | exact HB.out)) hb); clear HB; have HB := n0_; clear n0_; (try clear hb); (try clear hb2); (try clear hk); (try clear hi)))
       go_ret
       exact ⟨by first | rfl | (simp [errW_none, errW_some] <;> rfl) | (simp [*, errW_none, errW_some] <;> rfl) | (rw [ne_nil_not]; rfl), by repeat (first | (with_reducible first | exact HB.out | apply below_alloc | apply pw_below_drewN | apply below_drew1) | exact HB.out)⟩
     ·rw [if_neg c11] at H
      have c11b0 : (t106.toList == ([72, 84, 84, 80, 58, 47, 47, 97, 37, 50, 48, 98] : List UInt8)) = false := beq_eq_false_iff_ne.mpr c11
      have c11b1 : (t106.toList != ([72, 84, 84, 80, 58, 47, 47, 97, 37, 50, 48, 98] : List UInt8)) = true := bne_iff_ne.mpr c11
      obtain rfl := Option.some.inj H
      go_enter Tryd.func8, Tryd.ntmps8
      go_wp2_with (first | ((with_reducible refine gate_callee (f := 11) rfl ?_); refine goesL_ (some 6) rfl rfl Tryd.func11 (by kernel_rfl) rfl #[.string (⟨#[32, 74, 97, 118, 97, 9, 83, 99, 114, 105, 112, 116, 58, 120]⟩ : ByteArray)] rfl (by (try simp only [List.map_toArray, List.map_cons, List.map_nil]); first | done | rfl | (simp only [List.length_drop, List.length_take]; rfl)) ?_; (with_reducible refine (url_Scheme.calls (⟨#[32, 74, 97, 118, 97, 9, 83, 99, 114, 105, 112, 116, 58, 120]⟩ : ByteArray) t101 true _ A1.out).mono ?_); rintro e w25 ⟨rfl, hb⟩; refine ⟨_, rfl, ?_⟩; have n0_ := Aside0.mk (below_step (by repeat (first | (with_reducible first | exact HB.out | apply below_alloc | apply pw_below_drewN | apply below_drew1) | exact HB.out)) hb); clear HB; have HB := n0_; clear n0_; (try clear hb); (try clear hb2); (try clear hk); (try clear hi)) | ((with_reducible refine gate_callee (f := 11) rfl ?_); refine goesL_ (some 10) rfl rfl Tryd.func11 (by kernel_rfl) rfl #[.string (⟨#[97, 47, 98, 58, 99]⟩ : ByteArray)] rfl (by (try simp only [List.map_toArray, List.map_cons, List.map_nil]); first | done | rfl | (simp only [List.length_drop, List.length_take]; rfl)) ?_; (with_reducible refine (url_Scheme.calls (⟨#[97, 47, 98, 58, 99]⟩ : ByteArray) t103 false _ A2.out).mono ?_); rintro e w26 ⟨rfl, hb⟩; refine ⟨_, rfl, ?_⟩; have n0_ := Aside0.mk (below_step (by repeat (first | (with_reducible first | exact HB.out | apply below_alloc | apply pw_below_drewN | apply below_drew1) | exact HB.out)) hb); clear HB; have HB := n0_; clear n0_; (try clear hb); (try clear hb2); (try clear hk); (try clear hi)) | (go_at_call 9; (with_reducible refine (url_Start.calls (⟨#[106, 97, 118, 97, 115, 99, 114, 105, 112, 116, 58, 120]⟩ : ByteArray) t105 _ (tabs_below HT.out (by repeat (first | (with_reducible first | exact HB.out | apply below_alloc | apply pw_below_drewN | apply below_drew1) | exact HB.out))) A8.out).mono ?_); rintro e w27 ⟨rfl, hb⟩; have n0_ := Aside0.mk (below_step (by repeat (first | (with_reducible first | exact HB.out | apply below_alloc | apply pw_below_drewN | apply below_drew1) | exact HB.out)) hb); clear HB; have HB := n0_; clear n0_; (try clear hb); (try clear hb2); (try clear hk); (try clear hi)) | (go_at_call 9; (with_reducible refine (url_Start.calls (⟨#[72, 84, 84, 80, 58, 47, 47, 97, 32, 98]⟩ : ByteArray) t106 _ (tabs_below HT.out (by repeat (first | (with_reducible first | exact HB.out | apply below_alloc | apply pw_below_drewN | apply below_drew1) | exact HB.out))) A10.out).mono ?_); rintro e w28 ⟨rfl, hb⟩; have n0_ := Aside0.mk (below_step (by repeat (first | (with_reducible first | exact HB.out | apply below_alloc | apply pw_below_drewN | apply below_drew1) | exact HB.out)) hb); clear HB; have HB := n0_; clear n0_; (try clear hb); (try clear hb2); (try clear hk); (try clear hi)))
      go_ret
      exact ⟨by first | rfl | (simp [errW_none, errW_some] <;> rfl) | (simp [*, errW_none, errW_some] <;> rfl) | (rw [ne_nil_not]; rfl), by repeat (first | (with_reducible first | exact HB.out | apply below_alloc | apply pw_below_drewN | apply below_drew1) | exact HB.out)⟩
    ·rw [if_neg c9] at H
     have c9b0 : (t105.toList == ([35, 90, 103, 111, 116, 109, 112, 108, 90] : List UInt8)) = false := beq_eq_false_iff_ne.mpr c9
     have c9b1 : (t105.toList != ([35, 90, 103, 111, 116, 109, 112, 108, 90] : List UInt8)) = true := bne_iff_ne.mpr c9
     obtain rfl := Option.some.inj H
     go_enter Tryd.func8, Tryd.ntmps8
     go_wp2_with (first | ((with_reducible refine gate_callee (f := 11) rfl ?_); refine goesL_ (some 6) rfl rfl Tryd.func11 (by kernel_rfl) rfl #[.string (⟨#[32, 74, 97, 118, 97, 9, 83, 99, 114, 105, 112, 116, 58, 120]⟩ : ByteArray)] rfl (by (try simp only [List.map_toArray, List.map_cons, List.map_nil]); first | done | rfl | (simp only [List.length_drop, List.length_take]; rfl)) ?_; (with_reducible refine (url_Scheme.calls (⟨#[32, 74, 97, 118, 97, 9, 83, 99, 114, 105, 112, 116, 58, 120]⟩ : ByteArray) t101 true _ A1.out).mono ?_); rintro e w29 ⟨rfl, hb⟩; refine ⟨_, rfl, ?_⟩; have n0_ := Aside0.mk (below_step (by repeat (first | (with_reducible first | exact HB.out | apply below_alloc | apply pw_below_drewN | apply below_drew1) | exact HB.out)) hb); clear HB; have HB := n0_; clear n0_; (try clear hb); (try clear hb2); (try clear hk); (try clear hi)) | ((with_reducible refine gate_callee (f := 11) rfl ?_); refine goesL_ (some 10) rfl rfl Tryd.func11 (by kernel_rfl) rfl #[.string (⟨#[97, 47, 98, 58, 99]⟩ : ByteArray)] rfl (by (try simp only [List.map_toArray, List.map_cons, List.map_nil]); first | done | rfl | (simp only [List.length_drop, List.length_take]; rfl)) ?_; (with_reducible refine (url_Scheme.calls (⟨#[97, 47, 98, 58, 99]⟩ : ByteArray) t103 false _ A2.out).mono ?_); rintro e w30 ⟨rfl, hb⟩; refine ⟨_, rfl, ?_⟩; have n0_ := Aside0.mk (below_step (by repeat (first | (with_reducible first | exact HB.out | apply below_alloc | apply pw_below_drewN | apply below_drew1) | exact HB.out)) hb); clear HB; have HB := n0_; clear n0_; (try clear hb); (try clear hb2); (try clear hk); (try clear hi)) | (go_at_call 9; (with_reducible refine (url_Start.calls (⟨#[106, 97, 118, 97, 115, 99, 114, 105, 112, 116, 58, 120]⟩ : ByteArray) t105 _ (tabs_below HT.out (by repeat (first | (with_reducible first | exact HB.out | apply below_alloc | apply pw_below_drewN | apply below_drew1) | exact HB.out))) A8.out).mono ?_); rintro e w31 ⟨rfl, hb⟩; have n0_ := Aside0.mk (below_step (by repeat (first | (with_reducible first | exact HB.out | apply below_alloc | apply pw_below_drewN | apply below_drew1) | exact HB.out)) hb); clear HB; have HB := n0_; clear n0_; (try clear hb); (try clear hb2); (try clear hk); (try clear hi)))
     go_ret
     exact ⟨by first | rfl | (simp [errW_none, errW_some] <;> rfl) | (simp [*, errW_none, errW_some] <;> rfl) | (rw [ne_nil_not]; rfl), by repeat (first | (with_reducible first | exact HB.out | apply below_alloc | apply pw_below_drewN | apply below_drew1) | exact HB.out)⟩
  ·replace c4 := Bool.eq_false_iff.mpr c4
   subst c4
   have H1 : (some false) = some r := by rw [if_neg (show ¬ (false = true) by decide)] at H; exact H
   clear H
   have H := H1
   clear H1
   obtain rfl := Option.some.inj H
   go_enter Tryd.func8, Tryd.ntmps8
   go_wp2_with (first | ((with_reducible refine gate_callee (f := 11) rfl ?_); refine goesL_ (some 6) rfl rfl Tryd.func11 (by kernel_rfl) rfl #[.string (⟨#[32, 74, 97, 118, 97, 9, 83, 99, 114, 105, 112, 116, 58, 120]⟩ : ByteArray)] rfl (by (try simp only [List.map_toArray, List.map_cons, List.map_nil]); first | done | rfl | (simp only [List.length_drop, List.length_take]; rfl)) ?_; (with_reducible refine (url_Scheme.calls (⟨#[32, 74, 97, 118, 97, 9, 83, 99, 114, 105, 112, 116, 58, 120]⟩ : ByteArray) t101 false _ A1.out).mono ?_); rintro e w32 ⟨rfl, hb⟩; refine ⟨_, rfl, ?_⟩; have n0_ := Aside0.mk (below_step (by repeat (first | (with_reducible first | exact HB.out | apply below_alloc | apply pw_below_drewN | apply below_drew1) | exact HB.out)) hb); clear HB; have HB := n0_; clear n0_; (try clear hb); (try clear hb2); (try clear hk); (try clear hi)) | ((with_reducible refine gate_callee (f := 11) rfl ?_); refine goesL_ (some 10) rfl rfl Tryd.func11 (by kernel_rfl) rfl #[.string (⟨#[97, 47, 98, 58, 99]⟩ : ByteArray)] rfl (by (try simp only [List.map_toArray, List.map_cons, List.map_nil]); first | done | rfl | (simp only [List.length_drop, List.length_take]; rfl)) ?_; (with_reducible refine (url_Scheme.calls (⟨#[97, 47, 98, 58, 99]⟩ : ByteArray) t103 t104 _ A2.out).mono ?_); rintro e w33 ⟨rfl, hb⟩; refine ⟨_, rfl, ?_⟩; have n0_ := Aside0.mk (below_step (by repeat (first | (with_reducible first | exact HB.out | apply below_alloc | apply pw_below_drewN | apply below_drew1) | exact HB.out)) hb); clear HB; have HB := n0_; clear n0_; (try clear hb); (try clear hb2); (try clear hk); (try clear hi)))
   go_ret
   exact ⟨by first | rfl | (simp [errW_none, errW_some] <;> rfl) | (simp [*, errW_none, errW_some] <;> rfl) | (rw [ne_nil_not]; rfl), by repeat (first | (with_reducible first | exact HB.out | apply below_alloc | apply pw_below_drewN | apply below_drew1) | exact HB.out)⟩
 ·rw [if_neg c3] at H
  have c3b0 : (t101.toList == ([106, 97, 118, 97, 115, 99, 114, 105, 112, 116] : List UInt8)) = false := beq_eq_false_iff_ne.mpr c3
  have c3b1 : (t101.toList != ([106, 97, 118, 97, 115, 99, 114, 105, 112, 116] : List UInt8)) = true := bne_iff_ne.mpr c3
  obtain rfl := Option.some.inj H
  go_enter Tryd.func8, Tryd.ntmps8
  go_wp2_with (first | ((with_reducible refine gate_callee (f := 11) rfl ?_); refine goesL_ (some 6) rfl rfl Tryd.func11 (by kernel_rfl) rfl #[.string (⟨#[32, 74, 97, 118, 97, 9, 83, 99, 114, 105, 112, 116, 58, 120]⟩ : ByteArray)] rfl (by (try simp only [List.map_toArray, List.map_cons, List.map_nil]); first | done | rfl | (simp only [List.length_drop, List.length_take]; rfl)) ?_; (with_reducible refine (url_Scheme.calls (⟨#[32, 74, 97, 118, 97, 9, 83, 99, 114, 105, 112, 116, 58, 120]⟩ : ByteArray) t101 t102 _ A1.out).mono ?_); rintro e w34 ⟨rfl, hb⟩; refine ⟨_, rfl, ?_⟩; have n0_ := Aside0.mk (below_step (by repeat (first | (with_reducible first | exact HB.out | apply below_alloc | apply pw_below_drewN | apply below_drew1) | exact HB.out)) hb); clear HB; have HB := n0_; clear n0_; (try clear hb); (try clear hb2); (try clear hk); (try clear hi)) | ((with_reducible refine gate_callee (f := 11) rfl ?_); refine goesL_ (some 10) rfl rfl Tryd.func11 (by kernel_rfl) rfl #[.string (⟨#[97, 47, 98, 58, 99]⟩ : ByteArray)] rfl (by (try simp only [List.map_toArray, List.map_cons, List.map_nil]); first | done | rfl | (simp only [List.length_drop, List.length_take]; rfl)) ?_; (with_reducible refine (url_Scheme.calls (⟨#[97, 47, 98, 58, 99]⟩ : ByteArray) t103 t104 _ A2.out).mono ?_); rintro e w35 ⟨rfl, hb⟩; refine ⟨_, rfl, ?_⟩; have n0_ := Aside0.mk (below_step (by repeat (first | (with_reducible first | exact HB.out | apply below_alloc | apply pw_below_drewN | apply below_drew1) | exact HB.out)) hb); clear HB; have HB := n0_; clear n0_; (try clear hb); (try clear hb2); (try clear hk); (try clear hi)))
  go_ret
  exact ⟨by first | rfl | (simp [errW_none, errW_some] <;> rfl) | (simp [*, errW_none, errW_some] <;> rfl) | (rw [ne_nil_not]; rfl), by repeat (first | (with_reducible first | exact HB.out | apply below_alloc | apply pw_below_drewN | apply below_drew1) | exact HB.out)⟩

/-! ### stolelaw9_UrlTwice: function 7 -/
def stolelaw9_UrlTwice.l0 : Nat → ByteArray → ByteArray → Bool → Int → Option (Bool)
 | 0, _, _, _, _ => none
 | k + 1, x3, x4, x5, x6 => if x6 < (x4.size : Int) then (if x5 = true then (if 0 ≤ x6 then (stolelaw9_UrlTwice.l0 k x3 x4 ((bt x4 x6) != 37) (wrap64 (x6 + 1))) else (none)) else (stolelaw9_UrlTwice.l0 k x3 x4 false (wrap64 (x6 + 1)))) else ((url_Start.f x3).bind fun t112 => (if t112.toList = x3.toList then ((url_Part.f x4).bind fun t113 => (if ((t113.toList == x4.toList) == x5) = true then ((stolelaw0_Num.f 0).bind fun t114 => (some (t114 == 0))) else (some false))) else (some false)))
def stolelaw9_UrlTwice.f (k : Nat) (a0 : ByteArray) : Option (Bool) := (stolelaw9_awake.f).bind fun t109 => (if t109 = true then ((url_Start.f a0).bind fun t110 => ((url_Part.f a0).bind fun t111 => (stolelaw9_UrlTwice.l0 k t110 t111 true 0))) else (some false))
theorem stolelaw9_UrlTwice.mono_l : ∀ k, (∀ y0 y1 y2 y3, LeO (stolelaw9_UrlTwice.l0 k y0 y1 y2 y3) (stolelaw9_UrlTwice.l0 (k + 1) y0 y1 y2 y3))
 | 0 => fun _ _ _ _ r h => by simp [stolelaw9_UrlTwice.l0] at h
 | k + 1 => by
  have ih0 := stolelaw9_UrlTwice.mono_l k
  ·intro y0 y1 y2 y3
   unfold stolelaw9_UrlTwice.l0
   repeat' first
   | (with_reducible exact ih0 _ _ _ _)
   | (with_reducible exact LeO.refl _)
   | (with_reducible exact LeO.none _)
   | (with_reducible refine LeO.ite ?_ ?_)
   | (with_reducible refine LeO.bind ?_ (fun _ => ?_))
   | exact ih0 _ _ _ _
   | exact LeO.none _
   | refine LeO.ite ?_ ?_
   | refine LeO.bind ?_ (fun _ => ?_)
theorem stolelaw9_UrlTwice.mono : ∀ a0 k, LeO (stolelaw9_UrlTwice.f k a0) (stolelaw9_UrlTwice.f (k + 1) a0) := by
 intro a0 k
 have ih0 := stolelaw9_UrlTwice.mono_l k
 unfold stolelaw9_UrlTwice.f
 repeat' first
   | (with_reducible exact ih0 _ _ _ _)
   | (with_reducible exact LeO.refl _)
   | (with_reducible exact LeO.none _)
   | (with_reducible refine LeO.ite ?_ ?_)
   | (with_reducible refine LeO.bind ?_ (fun _ => ?_))
   | exact ih0 _ _ _ _
   | exact LeO.none _
   | refine LeO.ite ?_ ?_
   | refine LeO.bind ?_ (fun _ => ?_)
set_option maxHeartbeats 8000000 in
set_option maxRecDepth 100000 in
theorem stolelaw9_UrlTwice.calls (k : Nat) (a0 : ByteArray) (r : Bool) (w : World) (hT : Tabs w) (h : stolelaw9_UrlTwice.f k a0 = some r) :
  Calls Tryd.prog 7 #[.string a0] w fun e w' => e = .returned (.bool r) ∧ Below w.heap.size w w' := by
 have HT := Aside0.mk hT
 clear hT
 have HB := Aside0.mk (Below.refl w.heap.size w)
 have H : ((stolelaw9_awake.f).bind fun t109 => (if t109 = true then ((url_Start.f a0).bind fun t110 => ((url_Part.f a0).bind fun t111 => (stolelaw9_UrlTwice.l0 k t110 t111 true 0))) else (some false))) = some r := h
 clear h
 replace H := Option.bind_eq_some_iff.mp H
 obtain ⟨t109, A20, H⟩ := H
 replace H : (if t109 = true then ((url_Start.f a0).bind fun t110 => ((url_Part.f a0).bind fun t111 => (stolelaw9_UrlTwice.l0 k t110 t111 true 0))) else (some false)) = some r := H
 have A2 := Aside0.mk A20
 clear A20
 by_cases c3 : t109 = true
 ·subst c3
  have H1 : ((url_Start.f a0).bind fun t110 => ((url_Part.f a0).bind fun t111 => (stolelaw9_UrlTwice.l0 k t110 t111 true 0))) = some r := by rw [if_pos rfl] at H; exact H
  clear H
  have H := H1
  clear H1
  replace H := Option.bind_eq_some_iff.mp H
  obtain ⟨t110, A40, H⟩ := H
  replace H : ((url_Part.f a0).bind fun t111 => (stolelaw9_UrlTwice.l0 k t110 t111 true 0)) = some r := H
  have A4 := Aside0.mk A40
  clear A40
  replace H := Option.bind_eq_some_iff.mp H
  obtain ⟨t111, A50, H⟩ := H
  replace H : (stolelaw9_UrlTwice.l0 k t110 t111 true 0) = some r := H
  have A5 := Aside0.mk A50
  clear A50
  have H' := Aside0.mk H
  clear H
  go_enter Tryd.func7, Tryd.ntmps7
  go_wp2_with (first | ((with_reducible refine gate_callee (f := 8) rfl ?_); refine goesL_ (some 7) rfl rfl Tryd.func8 (by kernel_rfl) rfl #[] rfl (by (try simp only [List.map_toArray, List.map_cons, List.map_nil]); first | done | rfl | (simp only [List.length_drop, List.length_take]; rfl)) ?_; (with_reducible refine (stolelaw9_awake.calls  true _ (tabs_below HT.out (by repeat (first | (with_reducible first | exact HB.out | apply below_alloc | apply pw_below_drewN | apply below_drew1) | exact HB.out))) A2.out).mono ?_); rintro e w6 ⟨rfl, hb⟩; refine ⟨_, rfl, ?_⟩; have n0_ := Aside0.mk (below_step (by repeat (first | (with_reducible first | exact HB.out | apply below_alloc | apply pw_below_drewN | apply below_drew1) | exact HB.out)) hb); clear HB; have HB := n0_; clear n0_; (try clear hb); (try clear hb2); (try clear hk); (try clear hi)) | ((with_reducible refine gate_callee (f := 9) rfl ?_); refine goesL_ (some 10) rfl rfl Tryd.func9 (by kernel_rfl) rfl #[.string a0] rfl (by (try simp only [List.map_toArray, List.map_cons, List.map_nil]); first | done | rfl | (simp only [List.length_drop, List.length_take]; rfl)) ?_; (with_reducible refine (url_Start.calls a0 t110 _ (tabs_below HT.out (by repeat (first | (with_reducible first | exact HB.out | apply below_alloc | apply pw_below_drewN | apply below_drew1) | exact HB.out))) A4.out).mono ?_); rintro e w7 ⟨rfl, hb⟩; refine ⟨_, rfl, ?_⟩; have n0_ := Aside0.mk (below_step (by repeat (first | (with_reducible first | exact HB.out | apply below_alloc | apply pw_below_drewN | apply below_drew1) | exact HB.out)) hb); clear HB; have HB := n0_; clear n0_; (try clear hb); (try clear hb2); (try clear hk); (try clear hi)) | ((with_reducible refine gate_callee (f := 10) rfl ?_); refine goesL_ (some 12) rfl rfl Tryd.func10 (by kernel_rfl) rfl #[.string a0] rfl (by (try simp only [List.map_toArray, List.map_cons, List.map_nil]); first | done | rfl | (simp only [List.length_drop, List.length_take]; rfl)) ?_; (with_reducible refine (url_Part.calls a0 t111 _ (tabs_below HT.out (by repeat (first | (with_reducible first | exact HB.out | apply below_alloc | apply pw_below_drewN | apply below_drew1) | exact HB.out))) A5.out).mono ?_); rintro e w8 ⟨rfl, hb⟩; refine ⟨_, rfl, ?_⟩; have n0_ := Aside0.mk (below_step (by repeat (first | (with_reducible first | exact HB.out | apply below_alloc | apply pw_below_drewN | apply below_drew1) | exact HB.out)) hb); clear HB; have HB := n0_; clear n0_; (try clear hb); (try clear hb2); (try clear hk); (try clear hi)))
  go_loopg [5, 6] k (fun kq v5 v6 w' => ∃ (x5_1 : Bool) (x6_1 : Int), v5 = .bool x5_1 ∧ v6 = .int .i64 x6_1 ∧ Aside0 (stolelaw9_UrlTwice.l0 kq t110 t111 x5_1 x6_1 = some r) ∧ Aside0 (kq ≤ k) ∧ Aside0 (Below w.heap.size w w'))
  case atStart => exact ⟨(true), (0), (by first | rfl | (simp; done) | (simp [*]; done)), (by first | rfl | (simp; done) | (simp [*]; done)), H', ⟨Nat.le_refl _⟩, ⟨by repeat (first | (with_reducible first | exact HB.out | apply below_alloc | apply pw_below_drewN | apply below_drew1) | exact HB.out)⟩⟩
  case round =>
   clear H'
   try clear c1
   try clear p2
   try clear c3
   try clear c7
   try clear c8
   obtain ⟨x5_1, x6_1, rfl, rfl, HA, HK1, HB⟩ := hrel
   cases gk with
   | zero => exact absurd HA.out (by simp [stolelaw9_UrlTwice.l0])
   | succ k1 =>
    have H := HA.out
    clear HA
    simp only [stolelaw9_UrlTwice.l0] at H
    by_cases c9 : x6_1 < (t111.size : Int)
    ·rw [if_pos c9] at H
     have c9b0 : decide (x6_1 < (t111.size : Int)) = true := decide_eq_true c9
     clear c9
     by_cases c10 : x5_1 = true
     ·subst c10
      have H1 : (if 0 ≤ x6_1 then (stolelaw9_UrlTwice.l0 k1 t110 t111 ((bt t111 x6_1) != 37) (wrap64 (x6_1 + 1))) else (none)) = some r := by rw [if_pos rfl] at H; exact H
      clear H
      have H := H1
      clear H1
      by_cases c11 : 0 ≤ x6_1
      ·rw [if_pos c11] at H
       have c11b0 : decide (0 ≤ x6_1) = true := decide_eq_true c11
       clear c11
       have H' := Aside0.mk H
       clear H
       have p12 : 0 ≤ (x6_1 : Int) := of_decide_eq_true (by first | (with_reducible assumption) | assumption)
       have q12 : x6_1 < (t111.size : Int) := of_decide_eq_true (by first | (with_reducible assumption) | assumption)
       have hx12 := bt_at t111 x6_1
       replace p12 := eq_true p12
       replace q12 := eq_true q12
       go_wp2
       go_roundg k1
       case measure => have := HK1.out; omega
       case rel => exact ⟨(((bt t111 x6_1) != 37)), (wrap64 (x6_1 + 1)), (by first | rfl | (simp; done) | (simp [*]; done)), (by first | rfl | (simp; done) | (simp [*]; done)), H', ⟨by have := HK1.out; omega⟩, ⟨by repeat (first | (with_reducible first | exact HB.out | apply below_alloc | apply pw_below_drewN | apply below_drew1) | exact HB.out)⟩⟩
      ·rw [if_neg c11] at H
       exact absurd H (by simp)
     ·replace c10 := Bool.eq_false_iff.mpr c10
      subst c10
      have H1 : (stolelaw9_UrlTwice.l0 k1 t110 t111 false (wrap64 (x6_1 + 1))) = some r := by rw [if_neg (show ¬ (false = true) by decide)] at H; exact H
      clear H
      have H := H1
      clear H1
      have H' := Aside0.mk H
      clear H
      go_wp2
      go_roundg k1
      case measure => have := HK1.out; omega
      case rel => exact ⟨(false), (wrap64 (x6_1 + 1)), (by first | rfl | (simp; done) | (simp [*]; done)), (by first | rfl | (simp; done) | (simp [*]; done)), H', ⟨by have := HK1.out; omega⟩, ⟨by repeat (first | (with_reducible first | exact HB.out | apply below_alloc | apply pw_below_drewN | apply below_drew1) | exact HB.out)⟩⟩
    ·rw [if_neg c9] at H
     have c9b0 : decide (x6_1 < (t111.size : Int)) = false := decide_eq_false c9
     clear c9
     replace H := Option.bind_eq_some_iff.mp H
     obtain ⟨t112, A130, H⟩ := H
     replace H : (if t112.toList = t110.toList then ((url_Part.f t111).bind fun t113 => (if ((t113.toList == t111.toList) == x5_1) = true then ((stolelaw0_Num.f 0).bind fun t114 => (some (t114 == 0))) else (some false))) else (some false)) = some r := H
     have A13 := Aside0.mk A130
     clear A130
     by_cases c14 : t112.toList = t110.toList
     ·rw [if_pos c14] at H
      have c14b0 : (t112.toList == t110.toList) = true := beq_iff_eq.mpr c14
      have c14b1 : (t112.toList != t110.toList) = false := bne_eq_false_iff_eq.mpr c14
      clear c14
      replace H := Option.bind_eq_some_iff.mp H
      obtain ⟨t113, A150, H⟩ := H
      replace H : (if ((t113.toList == t111.toList) == x5_1) = true then ((stolelaw0_Num.f 0).bind fun t114 => (some (t114 == 0))) else (some false)) = some r := H
      have A15 := Aside0.mk A150
      clear A150
      by_cases c16 : ((t113.toList == t111.toList) == x5_1) = true
      ·rw [if_pos c16] at H
       have c16b0 : ((t113.toList == t111.toList) == x5_1) = true := c16
       (try (have c16b1 : decide ((t113.toList == t111.toList) = x5_1) = true := by simpa using c16))
       (try (have c16b2 : ((t113.toList == t111.toList) == x5_1) = true := by simpa using c16))
       clear c16
       replace H := Option.bind_eq_some_iff.mp H
       obtain ⟨t114, A170, H⟩ := H
       replace H : (some (t114 == 0)) = some r := H
       have A17 := Aside0.mk A170
       clear A170
       obtain rfl := Option.some.inj H
       go_wp2_with (first | ((with_reducible refine gate_callee (f := 9) rfl ?_); refine goesL_ (some 27) rfl rfl Tryd.func9 (by kernel_rfl) rfl #[.string t110] rfl (by (try simp only [List.map_toArray, List.map_cons, List.map_nil]); first | done | rfl | (simp only [List.length_drop, List.length_take]; rfl)) ?_; (with_reducible refine (url_Start.calls t110 t112 _ (tabs_below HT.out (by repeat (first | (with_reducible first | exact HB.out | apply below_alloc | apply pw_below_drewN | apply below_drew1) | exact HB.out))) A13.out).mono ?_); rintro e w18 ⟨rfl, hb⟩; refine ⟨_, rfl, ?_⟩; have n0_ := Aside0.mk (below_step (by repeat (first | (with_reducible first | exact HB.out | apply below_alloc | apply pw_below_drewN | apply below_drew1) | exact HB.out)) hb); clear HB; have HB := n0_; clear n0_; (try clear hb); (try clear hb2); (try clear hk); (try clear hi)) | (go_at_call 10; (with_reducible refine (url_Part.calls t111 t113 _ (tabs_below HT.out (by repeat (first | (with_reducible first | exact HB.out | apply below_alloc | apply pw_below_drewN | apply below_drew1) | exact HB.out))) A15.out).mono ?_); rintro e w19 ⟨rfl, hb⟩; have n0_ := Aside0.mk (below_step (by repeat (first | (with_reducible first | exact HB.out | apply below_alloc | apply pw_below_drewN | apply below_drew1) | exact HB.out)) hb); clear HB; have HB := n0_; clear n0_; (try clear hb); (try clear hb2); (try clear hk); (try clear hi)) | (go_at_call 16; (with_reducible refine (stolelaw0_Num.calls 0 t114 _ A17.out).mono ?_); rintro e w' ⟨rfl, ⟨nd, rfl⟩⟩))
       go_ret
       exact ⟨by first | rfl | (simp [errW_none, errW_some] <;> rfl) | (simp [*, errW_none, errW_some] <;> rfl) | (rw [ne_nil_not]; rfl), by repeat (first | (with_reducible first | exact HB.out | apply below_alloc | apply pw_below_drewN | apply below_drew1) | exact HB.out)⟩
      ·rw [if_neg c16] at H
       have c16b0 : ((t113.toList == t111.toList) == x5_1) = false := by simpa using c16
       (try (have c16b1 : decide ((t113.toList == t111.toList) = x5_1) = false := by simpa using c16))
       (try (have c16b2 : ((t113.toList == t111.toList) == x5_1) = false := by simpa using c16))
       (try (have c16b3 : ¬ ((t113.toList == t111.toList) = x5_1) := by simpa using c16))
       clear c16
       obtain rfl := Option.some.inj H
       go_wp2_with (first | ((with_reducible refine gate_callee (f := 9) rfl ?_); refine goesL_ (some 27) rfl rfl Tryd.func9 (by kernel_rfl) rfl #[.string t110] rfl (by (try simp only [List.map_toArray, List.map_cons, List.map_nil]); first | done | rfl | (simp only [List.length_drop, List.length_take]; rfl)) ?_; (with_reducible refine (url_Start.calls t110 t112 _ (tabs_below HT.out (by repeat (first | (with_reducible first | exact HB.out | apply below_alloc | apply pw_below_drewN | apply below_drew1) | exact HB.out))) A13.out).mono ?_); rintro e w20 ⟨rfl, hb⟩; refine ⟨_, rfl, ?_⟩; have n0_ := Aside0.mk (below_step (by repeat (first | (with_reducible first | exact HB.out | apply below_alloc | apply pw_below_drewN | apply below_drew1) | exact HB.out)) hb); clear HB; have HB := n0_; clear n0_; (try clear hb); (try clear hb2); (try clear hk); (try clear hi)) | (go_at_call 10; (with_reducible refine (url_Part.calls t111 t113 _ (tabs_below HT.out (by repeat (first | (with_reducible first | exact HB.out | apply below_alloc | apply pw_below_drewN | apply below_drew1) | exact HB.out))) A15.out).mono ?_); rintro e w21 ⟨rfl, hb⟩; have n0_ := Aside0.mk (below_step (by repeat (first | (with_reducible first | exact HB.out | apply below_alloc | apply pw_below_drewN | apply below_drew1) | exact HB.out)) hb); clear HB; have HB := n0_; clear n0_; (try clear hb); (try clear hb2); (try clear hk); (try clear hi)))
       go_ret
       exact ⟨by first | rfl | (simp [errW_none, errW_some] <;> rfl) | (simp [*, errW_none, errW_some] <;> rfl) | (rw [ne_nil_not]; rfl), by repeat (first | (with_reducible first | exact HB.out | apply below_alloc | apply pw_below_drewN | apply below_drew1) | exact HB.out)⟩
     ·rw [if_neg c14] at H
      have c14b0 : (t112.toList == t110.toList) = false := beq_eq_false_iff_ne.mpr c14
      have c14b1 : (t112.toList != t110.toList) = true := bne_iff_ne.mpr c14
      obtain rfl := Option.some.inj H
      go_wp2_with (first | ((with_reducible refine gate_callee (f := 9) rfl ?_); refine goesL_ (some 27) rfl rfl Tryd.func9 (by kernel_rfl) rfl #[.string t110] rfl (by (try simp only [List.map_toArray, List.map_cons, List.map_nil]); first | done | rfl | (simp only [List.length_drop, List.length_take]; rfl)) ?_; (with_reducible refine (url_Start.calls t110 t112 _ (tabs_below HT.out (by repeat (first | (with_reducible first | exact HB.out | apply below_alloc | apply pw_below_drewN | apply below_drew1) | exact HB.out))) A13.out).mono ?_); rintro e w22 ⟨rfl, hb⟩; refine ⟨_, rfl, ?_⟩; have n0_ := Aside0.mk (below_step (by repeat (first | (with_reducible first | exact HB.out | apply below_alloc | apply pw_below_drewN | apply below_drew1) | exact HB.out)) hb); clear HB; have HB := n0_; clear n0_; (try clear hb); (try clear hb2); (try clear hk); (try clear hi)))
      go_ret
      exact ⟨by first | rfl | (simp [errW_none, errW_some] <;> rfl) | (simp [*, errW_none, errW_some] <;> rfl) | (rw [ne_nil_not]; rfl), by repeat (first | (with_reducible first | exact HB.out | apply below_alloc | apply pw_below_drewN | apply below_drew1) | exact HB.out)⟩
 ·replace c3 := Bool.eq_false_iff.mpr c3
  subst c3
  have H1 : (some false) = some r := by rw [if_neg (show ¬ (false = true) by decide)] at H; exact H
  clear H
  have H := H1
  clear H1
  obtain rfl := Option.some.inj H
  go_enter Tryd.func7, Tryd.ntmps7
  go_wp2_with (first | ((with_reducible refine gate_callee (f := 8) rfl ?_); refine goesL_ (some 7) rfl rfl Tryd.func8 (by kernel_rfl) rfl #[] rfl (by (try simp only [List.map_toArray, List.map_cons, List.map_nil]); first | done | rfl | (simp only [List.length_drop, List.length_take]; rfl)) ?_; (with_reducible refine (stolelaw9_awake.calls  false _ (tabs_below HT.out (by repeat (first | (with_reducible first | exact HB.out | apply below_alloc | apply pw_below_drewN | apply below_drew1) | exact HB.out))) A2.out).mono ?_); rintro e w23 ⟨rfl, hb⟩; refine ⟨_, rfl, ?_⟩; have n0_ := Aside0.mk (below_step (by repeat (first | (with_reducible first | exact HB.out | apply below_alloc | apply pw_below_drewN | apply below_drew1) | exact HB.out)) hb); clear HB; have HB := n0_; clear n0_; (try clear hb); (try clear hb2); (try clear hk); (try clear hi)))
  go_ret
  exact ⟨by first | rfl | (simp [errW_none, errW_some] <;> rfl) | (simp [*, errW_none, errW_some] <;> rfl) | (rw [ne_nil_not]; rfl), by repeat (first | (with_reducible first | exact HB.out | apply below_alloc | apply pw_below_drewN | apply below_drew1) | exact HB.out)⟩

/-- THE ONE PURE STATEMENT of stolelaw9_UrlTwice: yours. -/
def stolelaw9_UrlTwice.Pure : Prop := ∀ (a0 : ByteArray), a0.size ≤ 140737488351232 → ∃ k, stolelaw9_UrlTwice.f k a0 = some true
theorem stolelaw9_UrlTwice.walk (P : stolelaw9_UrlTwice.Pure) (a0 : ByteArray) (w : World) (hT : Tabs w) (w0 : a0.size ≤ 140737488351232) :
  Calls Tryd.prog 7 #[.string a0] w fun e w' => e = .returned (.bool true) ∧ Below w.heap.size w w' := by
 obtain ⟨k, h⟩ := P a0 w0
 refine (stolelaw9_UrlTwice.calls k a0 true w hT h).mono ?_
 rintro e w' ⟨rfl, hd⟩
 exact ⟨rfl, hd⟩

/-! ### stoleref1_Low: function 26 -/
def stoleref1_Low.f (a0 : Int) : Option (Int) := if a0 ≥ 65 then (if a0 ≤ 90 then (some ((a0 + 32) % 256)) else (some a0)) else (some a0)
set_option maxHeartbeats 8000000 in
set_option maxRecDepth 100000 in
theorem stoleref1_Low.calls (a0 : Int) (r : Int) (w : World) (h : stoleref1_Low.f a0 = some r) :
  Calls Tryd.prog 26 #[.int .u8 a0] w fun e w' => e = .returned (.int .u8 r) ∧ Drawn0 w w' := by
 have H : (if a0 ≥ 65 then (if a0 ≤ 90 then (some ((a0 + 32) % 256)) else (some a0)) else (some a0)) = some r := h
 clear h
 by_cases c2 : a0 ≥ 65
 ·rw [if_pos c2] at H
  have c2b0 : decide (65 ≤ a0) = true := decide_eq_true c2
  clear c2
  by_cases c3 : a0 ≤ 90
  ·rw [if_pos c3] at H
   have c3b0 : decide (a0 ≤ 90) = true := decide_eq_true c3
   clear c3
   obtain rfl := Option.some.inj H
   go_enter Tryd.func26, Tryd.ntmps26
   go_wp2
   go_ret
   exact ⟨by first | rfl | (simp; done) | (simp [*]; done), by repeat (first | exact Drawn0.refl _ | apply Drawn0.step)⟩
  ·rw [if_neg c3] at H
   have c3b0 : decide (a0 ≤ 90) = false := decide_eq_false c3
   clear c3
   obtain rfl := Option.some.inj H
   go_enter Tryd.func26, Tryd.ntmps26
   go_wp2
   go_ret
   exact ⟨by first | rfl | (simp; done) | (simp [*]; done), by repeat (first | exact Drawn0.refl _ | apply Drawn0.step)⟩
 ·rw [if_neg c2] at H
  have c2b0 : decide (65 ≤ a0) = false := decide_eq_false c2
  clear c2
  obtain rfl := Option.some.inj H
  go_enter Tryd.func26, Tryd.ntmps26
  go_wp2
  go_ret
  exact ⟨by first | rfl | (simp; done) | (simp [*]; done), by repeat (first | exact Drawn0.refl _ | apply Drawn0.step)⟩

/-! ### stoleref1_Letter: function 14 -/
def stoleref1_Letter.f (a0 : Int) : Option (Bool) := (stoleref1_Low.f a0).bind fun t115 => (if t115 ≥ 97 then ((stoleref1_Low.f a0).bind fun t116 => (some (decide (t116 ≤ 122)))) else (some false))
set_option maxHeartbeats 8000000 in
set_option maxRecDepth 100000 in
theorem stoleref1_Letter.calls (a0 : Int) (r : Bool) (w : World) (h : stoleref1_Letter.f a0 = some r) :
  Calls Tryd.prog 14 #[.int .u8 a0] w fun e w' => e = .returned (.bool r) ∧ Drawn0 w w' := by
 have H : ((stoleref1_Low.f a0).bind fun t115 => (if t115 ≥ 97 then ((stoleref1_Low.f a0).bind fun t116 => (some (decide (t116 ≤ 122)))) else (some false))) = some r := h
 clear h
 replace H := Option.bind_eq_some_iff.mp H
 obtain ⟨t115, A20, H⟩ := H
 replace H : (if t115 ≥ 97 then ((stoleref1_Low.f a0).bind fun t116 => (some (decide (t116 ≤ 122)))) else (some false)) = some r := H
 have A2 := Aside0.mk A20
 clear A20
 by_cases c3 : t115 ≥ 97
 ·rw [if_pos c3] at H
  have c3b0 : decide (97 ≤ t115) = true := decide_eq_true c3
  clear c3
  replace H := Option.bind_eq_some_iff.mp H
  obtain ⟨t116, A40, H⟩ := H
  replace H : (some (decide (t116 ≤ 122))) = some r := H
  have A4 := Aside0.mk A40
  clear A40
  obtain rfl := Option.some.inj H
  go_enter Tryd.func14, Tryd.ntmps14
  go_wp2_with (first | ((with_reducible refine gate_callee (f := 26) rfl ?_); refine goesL_ (some 4) rfl rfl Tryd.func26 (by kernel_rfl) rfl #[.int .u8 a0] rfl (by (try simp only [List.map_toArray, List.map_cons, List.map_nil]); first | done | rfl | (simp only [List.length_drop, List.length_take]; rfl)) ?_; (with_reducible refine (stoleref1_Low.calls a0 t115 _ A2.out).mono ?_); rintro e w' ⟨rfl, ⟨nd, rfl⟩⟩; refine ⟨_, rfl, ?_⟩) | (go_at_call 26; (with_reducible refine (stoleref1_Low.calls a0 t116 _ A4.out).mono ?_); rintro e w' ⟨rfl, ⟨nd, rfl⟩⟩))
  go_ret
  exact ⟨by first | rfl | (simp; done) | (simp [*]; done), by repeat (first | exact Drawn0.refl _ | apply Drawn0.step)⟩
 ·rw [if_neg c3] at H
  have c3b0 : decide (97 ≤ t115) = false := decide_eq_false c3
  clear c3
  obtain rfl := Option.some.inj H
  go_enter Tryd.func14, Tryd.ntmps14
  go_wp2_with (first | ((with_reducible refine gate_callee (f := 26) rfl ?_); refine goesL_ (some 4) rfl rfl Tryd.func26 (by kernel_rfl) rfl #[.int .u8 a0] rfl (by (try simp only [List.map_toArray, List.map_cons, List.map_nil]); first | done | rfl | (simp only [List.length_drop, List.length_take]; rfl)) ?_; (with_reducible refine (stoleref1_Low.calls a0 t115 _ A2.out).mono ?_); rintro e w' ⟨rfl, ⟨nd, rfl⟩⟩; refine ⟨_, rfl, ?_⟩))
  go_ret
  exact ⟨by first | rfl | (simp; done) | (simp [*]; done), by repeat (first | exact Drawn0.refl _ | apply Drawn0.step)⟩

/-! ### stoleref1_Digit: function 15 -/
def stoleref1_Digit.f (a0 : Int) : Option (Bool) := if a0 ≥ 48 then (some (decide (a0 ≤ 57))) else (some false)
set_option maxHeartbeats 8000000 in
set_option maxRecDepth 100000 in
theorem stoleref1_Digit.calls (a0 : Int) (r : Bool) (w : World) (h : stoleref1_Digit.f a0 = some r) :
  Calls Tryd.prog 15 #[.int .u8 a0] w fun e w' => e = .returned (.bool r) ∧ Drawn0 w w' := by
 have H : (if a0 ≥ 48 then (some (decide (a0 ≤ 57))) else (some false)) = some r := h
 clear h
 by_cases c2 : a0 ≥ 48
 ·rw [if_pos c2] at H
  have c2b0 : decide (48 ≤ a0) = true := decide_eq_true c2
  clear c2
  obtain rfl := Option.some.inj H
  go_enter Tryd.func15, Tryd.ntmps15
  go_wp2
  go_ret
  exact ⟨by first | rfl | (simp; done) | (simp [*]; done), by repeat (first | exact Drawn0.refl _ | apply Drawn0.step)⟩
 ·rw [if_neg c2] at H
  have c2b0 : decide (48 ≤ a0) = false := decide_eq_false c2
  clear c2
  obtain rfl := Option.some.inj H
  go_enter Tryd.func15, Tryd.ntmps15
  go_wp2
  go_ret
  exact ⟨by first | rfl | (simp; done) | (simp [*]; done), by repeat (first | exact Drawn0.refl _ | apply Drawn0.step)⟩

end Go.Proofs.YtfncppekjgbedaaDoor.XU
