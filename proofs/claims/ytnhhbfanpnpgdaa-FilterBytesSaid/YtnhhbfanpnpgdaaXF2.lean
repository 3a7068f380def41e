/- Laid by xprint.py, a program of this session over the kit's print: for each Go function one Lean function of the same answers, and the walk that shows it. -/
import Derived.Test.YtnhhbfanpnpgdaaXF0
import Derived.Test.YtnhhbfanpnpgdaaXF1
namespace Go.Proofs.Ytnhhbfanpnpgdaa.XF
open Go.RowKit Go.Proofs.Ytnhhbfanpnpgdaa.Ext Go.Proofs.YtnhhbfanpnpgdaaW.PrintWords Go.Proofs.YtnhhbfanpnpgdaaW.PrintLast Go.Proofs.YtnhhbfanpnpgdaaW.PrintMore
attribute [local go_sem] max2_int min2_int max_two min_two max_three min_three max_four min_four   -- for this text's walks alone
set_option linter.unusedVariables false
set_option linter.unusedSimpArgs false

/-! ### stolelaw12_Filters: function 3 -/
def stolelaw12_Filters.f (k : Nat) (a0 : ByteArray) (a1 : ByteArray) : Option (Bool) := (css_Filter.f k a0).bind fun t115 => (if a0.size + a1.size ≤ 9223372036854775807 then ((css_Filter.f k (a0 ++ a1)).bind fun t116 => ((stoleref1_Filter.f k a0).bind fun t117 => (if t115.toList = t117.toList then ((stoleref1_Filter.f k (a0 ++ a1)).bind fun t118 => (if t116.toList = t118.toList then ((css_Filter.f k t115).bind fun t119 => (if t119.toList = t115.toList then (if t116.toList = (a0 ++ a1).toList then (if t115.toList = a0.toList then ((stolelaw12_awake.f k).bind fun t120 => (some t120)) else (if t116.toList = ([90, 103, 111, 116, 109, 112, 108, 90] : List UInt8) then ((stolelaw12_awake.f k).bind fun t121 => (some t121)) else (some false))) else (if t116.toList = ([90, 103, 111, 116, 109, 112, 108, 90] : List UInt8) then (if t115.toList = a0.toList then ((stolelaw12_awake.f k).bind fun t122 => (some t122)) else ((stolelaw12_awake.f k).bind fun t123 => (some t123))) else (some false))) else (some false))) else (some false))) else (some false)))) else (none))
theorem stolelaw12_Filters.mono : ∀ a0 a1 k, LeO (stolelaw12_Filters.f k a0 a1) (stolelaw12_Filters.f (k + 1) a0 a1) := by
 intro a0 a1 k
 unfold stolelaw12_Filters.f
 repeat' first
   | (with_reducible exact css_Filter.mono _ _)
   | (with_reducible exact stolelaw12_awake.mono _)
   | (with_reducible exact stoleref1_Filter.mono _ _)
   | (with_reducible exact LeO.refl _)
   | (with_reducible exact LeO.none _)
   | (with_reducible refine LeO.ite ?_ ?_)
   | (with_reducible refine LeO.bind ?_ (fun _ => ?_))
   | exact css_Filter.mono _ _
   | exact stolelaw12_awake.mono _
   | exact stoleref1_Filter.mono _ _
   | exact LeO.none _
   | refine LeO.ite ?_ ?_
   | refine LeO.bind ?_ (fun _ => ?_)
set_option maxHeartbeats 8000000 in
set_option maxRecDepth 100000 in
theorem stolelaw12_Filters.calls (k : Nat) (a0 : ByteArray) (a1 : ByteArray) (r : Bool) (w : World) (h : stolelaw12_Filters.f k a0 a1 = some r) :
  Calls Try.prog 3 #[.string a0, .string a1] w fun e w' => e = .returned (.bool r) ∧ Drawn0 w w' := by
 have H : ((css_Filter.f k a0).bind fun t115 => (if a0.size + a1.size ≤ 9223372036854775807 then ((css_Filter.f k (a0 ++ a1)).bind fun t116 => ((stoleref1_Filter.f k a0).bind fun t117 => (if t115.toList = t117.toList then ((stoleref1_Filter.f k (a0 ++ a1)).bind fun t118 => (if t116.toList = t118.toList then ((css_Filter.f k t115).bind fun t119 => (if t119.toList = t115.toList then (if t116.toList = (a0 ++ a1).toList then (if t115.toList = a0.toList then ((stolelaw12_awake.f k).bind fun t120 => (some t120)) else (if t116.toList = ([90, 103, 111, 116, 109, 112, 108, 90] : List UInt8) then ((stolelaw12_awake.f k).bind fun t121 => (some t121)) else (some false))) else (if t116.toList = ([90, 103, 111, 116, 109, 112, 108, 90] : List UInt8) then (if t115.toList = a0.toList then ((stolelaw12_awake.f k).bind fun t122 => (some t122)) else ((stolelaw12_awake.f k).bind fun t123 => (some t123))) else (some false))) else (some false))) else (some false))) else (some false)))) else (none))) = some r := h
 clear h
 replace H := Option.bind_eq_some_iff.mp H
 obtain ⟨t115, A30, H⟩ := H
 replace H : (if a0.size + a1.size ≤ 9223372036854775807 then ((css_Filter.f k (a0 ++ a1)).bind fun t116 => ((stoleref1_Filter.f k a0).bind fun t117 => (if t115.toList = t117.toList then ((stoleref1_Filter.f k (a0 ++ a1)).bind fun t118 => (if t116.toList = t118.toList then ((css_Filter.f k t115).bind fun t119 => (if t119.toList = t115.toList then (if t116.toList = (a0 ++ a1).toList then (if t115.toList = a0.toList then ((stolelaw12_awake.f k).bind fun t120 => (some t120)) else (if t116.toList = ([90, 103, 111, 116, 109, 112, 108, 90] : List UInt8) then ((stolelaw12_awake.f k).bind fun t121 => (some t121)) else (some false))) else (if t116.toList = ([90, 103, 111, 116, 109, 112, 108, 90] : List UInt8) then (if t115.toList = a0.toList then ((stolelaw12_awake.f k).bind fun t122 => (some t122)) else ((stolelaw12_awake.f k).bind fun t123 => (some t123))) else (some false))) else (some false))) else (some false))) else (some false)))) else (none)) = some r := H
 have A3 := Aside0.mk A30
 clear A30
 by_cases c4 : a0.size + a1.size ≤ 9223372036854775807
 ·rw [if_pos c4] at H
  have c4b0 := eq_true c4
  have c4b1 : decide (a0.size + a1.size ≤ 9223372036854775807) = true := decide_eq_true c4
  try have c4b2 : (9223372036854775807 < a0.size + a1.size) = False := eq_false (Nat.not_lt.2 c4)
  replace H := Option.bind_eq_some_iff.mp H
  obtain ⟨t116, A50, H⟩ := H
  replace H : ((stoleref1_Filter.f k a0).bind fun t117 => (if t115.toList = t117.toList then ((stoleref1_Filter.f k (a0 ++ a1)).bind fun t118 => (if t116.toList = t118.toList then ((css_Filter.f k t115).bind fun t119 => (if t119.toList = t115.toList then (if t116.toList = (a0 ++ a1).toList then (if t115.toList = a0.toList then ((stolelaw12_awake.f k).bind fun t120 => (some t120)) else (if t116.toList = ([90, 103, 111, 116, 109, 112, 108, 90] : List UInt8) then ((stolelaw12_awake.f k).bind fun t121 => (some t121)) else (some false))) else (if t116.toList = ([90, 103, 111, 116, 109, 112, 108, 90] : List UInt8) then (if t115.toList = a0.toList then ((stolelaw12_awake.f k).bind fun t122 => (some t122)) else ((stolelaw12_awake.f k).bind fun t123 => (some t123))) else (some false))) else (some false))) else (some false))) else (some false))) = some r := H
  have A5 := Aside0.mk A50
  clear A50
  replace H := Option.bind_eq_some_iff.mp H
  obtain ⟨t117, A60, H⟩ := H
  replace H : (if t115.toList = t117.toList then ((stoleref1_Filter.f k (a0 ++ a1)).bind fun t118 => (if t116.toList = t118.toList then ((css_Filter.f k t115).bind fun t119 => (if t119.toList = t115.toList then (if t116.toList = (a0 ++ a1).toList then (if t115.toList = a0.toList then ((stolelaw12_awake.f k).bind fun t120 => (some t120)) else (if t116.toList = ([90, 103, 111, 116, 109, 112, 108, 90] : List UInt8) then ((stolelaw12_awake.f k).bind fun t121 => (some t121)) else (some false))) else (if t116.toList = ([90, 103, 111, 116, 109, 112, 108, 90] : List UInt8) then (if t115.toList = a0.toList then ((stolelaw12_awake.f k).bind fun t122 => (some t122)) else ((stolelaw12_awake.f k).bind fun t123 => (some t123))) else (some false))) else (some false))) else (some false))) else (some false)) = some r := H
  have A6 := Aside0.mk A60
  clear A60
  by_cases c7 : t115.toList = t117.toList
  ·rw [if_pos c7] at H
   have c7b0 : (t115.toList == t117.toList) = true := beq_iff_eq.mpr c7
   have c7b1 : (t115.toList != t117.toList) = false := bne_eq_false_iff_eq.mpr c7
   clear c7
   replace H := Option.bind_eq_some_iff.mp H
   obtain ⟨t118, A80, H⟩ := H
   replace H : (if t116.toList = t118.toList then ((css_Filter.f k t115).bind fun t119 => (if t119.toList = t115.toList then (if t116.toList = (a0 ++ a1).toList then (if t115.toList = a0.toList then ((stolelaw12_awake.f k).bind fun t120 => (some t120)) else (if t116.toList = ([90, 103, 111, 116, 109, 112, 108, 90] : List UInt8) then ((stolelaw12_awake.f k).bind fun t121 => (some t121)) else (some false))) else (if t116.toList = ([90, 103, 111, 116, 109, 112, 108, 90] : List UInt8) then (if t115.toList = a0.toList then ((stolelaw12_awake.f k).bind fun t122 => (some t122)) else ((stolelaw12_awake.f k).bind fun t123 => (some t123))) else (some false))) else (some false))) else (some false)) = some r := H
   have A8 := Aside0.mk A80
   clear A80
   by_cases c9 : t116.toList = t118.toList
   ·rw [if_pos c9] at H
    have c9b0 : (t116.toList == t118.toList) = true := beq_iff_eq.mpr c9
    have c9b1 : (t116.toList != t118.toList) = false := bne_eq_false_iff_eq.mpr c9
    clear c9
    replace H := Option.bind_eq_some_iff.mp H
    obtain ⟨t119, A100, H⟩ := H
    replace H : (if t119.toList = t115.toList then (if t116.toList = (a0 ++ a1).toList then (if t115.toList = a0.toList then ((stolelaw12_awake.f k).bind fun t120 => (some t120)) else (if t116.toList = ([90, 103, 111, 116, 109, 112, 108, 90] : List UInt8) then ((stolelaw12_awake.f k).bind fun t121 => (some t121)) else (some false))) else (if t116.toList = ([90, 103, 111, 116, 109, 112, 108, 90] : List UInt8) then (if t115.toList = a0.toList then ((stolelaw12_awake.f k).bind fun t122 => (some t122)) else ((stolelaw12_awake.f k).bind fun t123 => (some t123))) else (some false))) else (some false)) = some r := H
    have A10 := Aside0.mk A100
    clear A100
    by_cases c11 : t119.toList = t115.toList
    ·rw [if_pos c11] at H
     have c11b0 : (t119.toList == t115.toList) = true := beq_iff_eq.mpr c11
     have c11b1 : (t119.toList != t115.toList) = false := bne_eq_false_iff_eq.mpr c11
     clear c11
     by_cases c12 : t116.toList = (a0 ++ a1).toList
     ·rw [if_pos c12] at H
      have c12b0 : (t116.toList == (a0 ++ a1).toList) = true := beq_iff_eq.mpr c12
      have c12b1 : (t116.toList != (a0 ++ a1).toList) = false := bne_eq_false_iff_eq.mpr c12
      clear c12
      by_cases c13 : t115.toList = a0.toList
      ·rw [if_pos c13] at H
       have c13b0 : (t115.toList == a0.toList) = true := beq_iff_eq.mpr c13
       have c13b1 : (t115.toList != a0.toList) = false := bne_eq_false_iff_eq.mpr c13
       clear c13
       replace H := Option.bind_eq_some_iff.mp H
       obtain ⟨t120, A140, H⟩ := H
       replace H : (some t120) = some r := H
       have A14 := Aside0.mk A140
       clear A140
       obtain rfl := Option.some.inj H
       go_enter Try.func3, Try.ntmps3
       go_wp2_with (first | ((with_reducible refine gate_callee (f := 12) rfl ?_); refine goesL_ (some 8) rfl rfl Try.func12 (by kernel_rfl) rfl #[.string a0] rfl (by (try simp only [List.map_toArray, List.map_cons, List.map_nil]); first | done | rfl | (simp only [List.length_drop, List.length_take]; rfl)) ?_; (with_reducible refine (css_Filter.calls k a0 t115 _ A3.out).mono ?_); rintro e w' ⟨rfl, ⟨nd, rfl⟩⟩; refine ⟨_, rfl, ?_⟩) | ((with_reducible refine gate_callee (f := 12) rfl ?_); refine goesL_ (some 12) rfl rfl Try.func12 (by kernel_rfl) rfl #[.string (a0 ++ a1)] rfl (by (try simp only [List.map_toArray, List.map_cons, List.map_nil]); first | done | rfl | (simp only [List.length_drop, List.length_take]; rfl)) ?_; (with_reducible refine (css_Filter.calls k (a0 ++ a1) t116 _ A5.out).mono ?_); rintro e w' ⟨rfl, ⟨nd, rfl⟩⟩; refine ⟨_, rfl, ?_⟩) | ((with_reducible refine gate_callee (f := 13) rfl ?_); refine goesL_ (some 15) rfl rfl Try.func13 (by kernel_rfl) rfl #[.string a0] rfl (by (try simp only [List.map_toArray, List.map_cons, List.map_nil]); first | done | rfl | (simp only [List.length_drop, List.length_take]; rfl)) ?_; (with_reducible refine (stoleref1_Filter.calls k a0 t117 _ A6.out).mono ?_); rintro e w' ⟨rfl, ⟨nd, rfl⟩⟩; refine ⟨_, rfl, ?_⟩) | (go_at_call 13; (with_reducible refine (stoleref1_Filter.calls k (a0 ++ a1) t118 _ A8.out).mono ?_); rintro e w' ⟨rfl, ⟨nd, rfl⟩⟩) | (go_at_call 12; (with_reducible refine (css_Filter.calls k t115 t119 _ A10.out).mono ?_); rintro e w' ⟨rfl, ⟨nd, rfl⟩⟩) | (go_at_call 14; (with_reducible refine (stolelaw12_awake.calls k  t120 _ A14.out).mono ?_); rintro e w' ⟨rfl, ⟨nd, rfl⟩⟩))
       go_ret
       exact ⟨by first | rfl | (simp; done) | (simp [*]; done), by repeat (first | exact Drawn0.refl _ | apply Drawn0.step)⟩
      ·rw [if_neg c13] at H
       have c13b0 : (t115.toList == a0.toList) = false := beq_eq_false_iff_ne.mpr c13
       have c13b1 : (t115.toList != a0.toList) = true := bne_iff_ne.mpr c13
       by_cases c15 : t116.toList = ([90, 103, 111, 116, 109, 112, 108, 90] : List UInt8)
       ·rw [if_pos c15] at H
        have c15b0 : (t116.toList == ([90, 103, 111, 116, 109, 112, 108, 90] : List UInt8)) = true := beq_iff_eq.mpr c15
        have c15b1 : (t116.toList != ([90, 103, 111, 116, 109, 112, 108, 90] : List UInt8)) = false := bne_eq_false_iff_eq.mpr c15
        clear c15
        replace H := Option.bind_eq_some_iff.mp H
        obtain ⟨t121, A160, H⟩ := H
        replace H : (some t121) = some r := H
        have A16 := Aside0.mk A160
        clear A160
        obtain rfl := Option.some.inj H
        go_enter Try.func3, Try.ntmps3
        go_wp2_with (first | ((with_reducible refine gate_callee (f := 12) rfl ?_); refine goesL_ (some 8) rfl rfl Try.func12 (by kernel_rfl) rfl #[.string a0] rfl (by (try simp only [List.map_toArray, List.map_cons, List.map_nil]); first | done | rfl | (simp only [List.length_drop, List.length_take]; rfl)) ?_; (with_reducible refine (css_Filter.calls k a0 t115 _ A3.out).mono ?_); rintro e w' ⟨rfl, ⟨nd, rfl⟩⟩; refine ⟨_, rfl, ?_⟩) | ((with_reducible refine gate_callee (f := 12) rfl ?_); refine goesL_ (some 12) rfl rfl Try.func12 (by kernel_rfl) rfl #[.string (a0 ++ a1)] rfl (by (try simp only [List.map_toArray, List.map_cons, List.map_nil]); first | done | rfl | (simp only [List.length_drop, List.length_take]; rfl)) ?_; (with_reducible refine (css_Filter.calls k (a0 ++ a1) t116 _ A5.out).mono ?_); rintro e w' ⟨rfl, ⟨nd, rfl⟩⟩; refine ⟨_, rfl, ?_⟩) | ((with_reducible refine gate_callee (f := 13) rfl ?_); refine goesL_ (some 15) rfl rfl Try.func13 (by kernel_rfl) rfl #[.string a0] rfl (by (try simp only [List.map_toArray, List.map_cons, List.map_nil]); first | done | rfl | (simp only [List.length_drop, List.length_take]; rfl)) ?_; (with_reducible refine (stoleref1_Filter.calls k a0 t117 _ A6.out).mono ?_); rintro e w' ⟨rfl, ⟨nd, rfl⟩⟩; refine ⟨_, rfl, ?_⟩) | (go_at_call 13; (with_reducible refine (stoleref1_Filter.calls k (a0 ++ a1) t118 _ A8.out).mono ?_); rintro e w' ⟨rfl, ⟨nd, rfl⟩⟩) | (go_at_call 12; (with_reducible refine (css_Filter.calls k t115 t119 _ A10.out).mono ?_); rintro e w' ⟨rfl, ⟨nd, rfl⟩⟩) | (go_at_call 14; (with_reducible refine (stolelaw12_awake.calls k  t121 _ A16.out).mono ?_); rintro e w' ⟨rfl, ⟨nd, rfl⟩⟩))
        go_ret
        exact ⟨by first | rfl | (simp; done) | (simp [*]; done), by repeat (first | exact Drawn0.refl _ | apply Drawn0.step)⟩
       ·rw [if_neg c15] at H
        have c15b0 : (t116.toList == ([90, 103, 111, 116, 109, 112, 108, 90] : List UInt8)) = false := beq_eq_false_iff_ne.mpr c15
        have c15b1 : (t116.toList != ([90, 103, 111, 116, 109, 112, 108, 90] : List UInt8)) = true := bne_iff_ne.mpr c15
        obtain rfl := Option.some.inj H
        go_enter Try.func3, Try.ntmps3
        go_wp2_with (first | ((with_reducible refine gate_callee (f := 12) rfl ?_); refine goesL_ (some 8) rfl rfl Try.func12 (by kernel_rfl) rfl #[.string a0] rfl (by (try simp only [List.map_toArray, List.map_cons, List.map_nil]); first | done | rfl | (simp only [List.length_drop, List.length_take]; rfl)) ?_; (with_reducible refine (css_Filter.calls k a0 t115 _ A3.out).mono ?_); rintro e w' ⟨rfl, ⟨nd, rfl⟩⟩; refine ⟨_, rfl, ?_⟩) | ((with_reducible refine gate_callee (f := 12) rfl ?_); refine goesL_ (some 12) rfl rfl Try.func12 (by kernel_rfl) rfl #[.string (a0 ++ a1)] rfl (by (try simp only [List.map_toArray, List.map_cons, List.map_nil]); first | done | rfl | (simp only [List.length_drop, List.length_take]; rfl)) ?_; (with_reducible refine (css_Filter.calls k (a0 ++ a1) t116 _ A5.out).mono ?_); rintro e w' ⟨rfl, ⟨nd, rfl⟩⟩; refine ⟨_, rfl, ?_⟩) | ((with_reducible refine gate_callee (f := 13) rfl ?_); refine goesL_ (some 15) rfl rfl Try.func13 (by kernel_rfl) rfl #[.string a0] rfl (by (try simp only [List.map_toArray, List.map_cons, List.map_nil]); first | done | rfl | (simp only [List.length_drop, List.length_take]; rfl)) ?_; (with_reducible refine (stoleref1_Filter.calls k a0 t117 _ A6.out).mono ?_); rintro e w' ⟨rfl, ⟨nd, rfl⟩⟩; refine ⟨_, rfl, ?_⟩) | (go_at_call 13; (with_reducible refine (stoleref1_Filter.calls k (a0 ++ a1) t118 _ A8.out).mono ?_); rintro e w' ⟨rfl, ⟨nd, rfl⟩⟩) | (go_at_call 12; (with_reducible refine (css_Filter.calls k t115 t119 _ A10.out).mono ?_); rintro e w' ⟨rfl, ⟨nd, rfl⟩⟩))
        go_ret
        exact ⟨by first | rfl | (simp; done) | (simp [*]; done), by repeat (first | exact Drawn0.refl _ | apply Drawn0.step)⟩
     ·rw [if_neg c12] at H
      have c12b0 : (t116.toList == (a0 ++ a1).toList) = false := beq_eq_false_iff_ne.mpr c12
      have c12b1 : (t116.toList != (a0 ++ a1).toList) = true := bne_iff_ne.mpr c12
      by_cases c17 : t116.toList = ([90, 103, 111, 116, 109, 112, 108, 90] : List UInt8)
      ·rw [if_pos c17] at H
       have c17b0 : (t116.toList == ([90, 103, 111, 116, 109, 112, 108, 90] : List UInt8)) = true := beq_iff_eq.mpr c17
       have c17b1 : (t116.toList != ([90, 103, 111, 116, 109, 112, 108, 90] : List UInt8)) = false := bne_eq_false_iff_eq.mpr c17
       clear c17
       by_cases c18 : t115.toList = a0.toList
       ·rw [if_pos c18] at H
        have c18b0 : (t115.toList == a0.toList) = true := beq_iff_eq.mpr c18
        have c18b1 : (t115.toList != a0.toList) = false := bne_eq_false_iff_eq.mpr c18
        clear c18
        replace H := Option.bind_eq_some_iff.mp H
        obtain ⟨t122, A190, H⟩ := H
        replace H : (some t122) = some r := H
        have A19 := Aside0.mk A190
        clear A190
        obtain rfl := Option.some.inj H
        go_enter Try.func3, Try.ntmps3
        go_wp2_with (first | ((with_reducible refine gate_callee (f := 12) rfl ?_); refine goesL_ (some 8) rfl rfl Try.func12 (by kernel_rfl) rfl #[.string a0] rfl (by (try simp only [List.map_toArray, List.map_cons, List.map_nil]); first | done | rfl | (simp only [List.length_drop, List.length_take]; rfl)) ?_; (with_reducible refine (css_Filter.calls k a0 t115 _ A3.out).mono ?_); rintro e w' ⟨rfl, ⟨nd, rfl⟩⟩; refine ⟨_, rfl, ?_⟩) | ((with_reducible refine gate_callee (f := 12) rfl ?_); refine goesL_ (some 12) rfl rfl Try.func12 (by kernel_rfl) rfl #[.string (a0 ++ a1)] rfl (by (try simp only [List.map_toArray, List.map_cons, List.map_nil]); first | done | rfl | (simp only [List.length_drop, List.length_take]; rfl)) ?_; (with_reducible refine (css_Filter.calls k (a0 ++ a1) t116 _ A5.out).mono ?_); rintro e w' ⟨rfl, ⟨nd, rfl⟩⟩; refine ⟨_, rfl, ?_⟩) | ((with_reducible refine gate_callee (f := 13) rfl ?_); refine goesL_ (some 15) rfl rfl Try.func13 (by kernel_rfl) rfl #[.string a0] rfl (by (try simp only [List.map_toArray, List.map_cons, List.map_nil]); first | done | rfl | (simp only [List.length_drop, List.length_take]; rfl)) ?_; (with_reducible refine (stoleref1_Filter.calls k a0 t117 _ A6.out).mono ?_); rintro e w' ⟨rfl, ⟨nd, rfl⟩⟩; refine ⟨_, rfl, ?_⟩) | (go_at_call 13; (with_reducible refine (stoleref1_Filter.calls k (a0 ++ a1) t118 _ A8.out).mono ?_); rintro e w' ⟨rfl, ⟨nd, rfl⟩⟩) | (go_at_call 12; (with_reducible refine (css_Filter.calls k t115 t119 _ A10.out).mono ?_); rintro e w' ⟨rfl, ⟨nd, rfl⟩⟩) | (go_at_call 14; (with_reducible refine (stolelaw12_awake.calls k  t122 _ A19.out).mono ?_); rintro e w' ⟨rfl, ⟨nd, rfl⟩⟩))
        go_ret
        exact ⟨by first | rfl | (simp; done) | (simp [*]; done), by repeat (first | exact Drawn0.refl _ | apply Drawn0.step)⟩
       ·rw [if_neg c18] at H
        have c18b0 : (t115.toList == a0.toList) = false := beq_eq_false_iff_ne.mpr c18
        have c18b1 : (t115.toList != a0.toList) = true := bne_iff_ne.mpr c18
        replace H := Option.bind_eq_some_iff.mp H
        obtain ⟨t123, A200, H⟩ := H
        replace H : (some t123) = some r := H
        have A20 := Aside0.mk A200
        clear A200
        obtain rfl := Option.some.inj H
        go_enter Try.func3, Try.ntmps3
        go_wp2_with (first | ((with_reducible refine gate_callee (f := 12) rfl ?_); refine goesL_ (some 8) rfl rfl Try.func12 (by kernel_rfl) rfl #[.string a0] rfl (by (try simp only [List.map_toArray, List.map_cons, List.map_nil]); first | done | rfl | (simp only [List.length_drop, List.length_take]; rfl)) ?_; (with_reducible refine (css_Filter.calls k a0 t115 _ A3.out).mono ?_); rintro e w' ⟨rfl, ⟨nd, rfl⟩⟩; refine ⟨_, rfl, ?_⟩) | ((with_reducible refine gate_callee (f := 12) rfl ?_); refine goesL_ (some 12) rfl rfl Try.func12 (by kernel_rfl) rfl #[.string (a0 ++ a1)] rfl (by (try simp only [List.map_toArray, List.map_cons, List.map_nil]); first | done | rfl | (simp only [List.length_drop, List.length_take]; rfl)) ?_; (with_reducible refine (css_Filter.calls k (a0 ++ a1) t116 _ A5.out).mono ?_); rintro e w' ⟨rfl, ⟨nd, rfl⟩⟩; refine ⟨_, rfl, ?_⟩) | ((with_reducible refine gate_callee (f := 13) rfl ?_); refine goesL_ (some 15) rfl rfl Try.func13 (by kernel_rfl) rfl #[.string a0] rfl (by (try simp only [List.map_toArray, List.map_cons, List.map_nil]); first | done | rfl | (simp only [List.length_drop, List.length_take]; rfl)) ?_; (with_reducible refine (stoleref1_Filter.calls k a0 t117 _ A6.out).mono ?_); rintro e w' ⟨rfl, ⟨nd, rfl⟩⟩; refine ⟨_, rfl, ?_⟩) | (go_at_call 13; (with_reducible refine (stoleref1_Filter.calls k (a0 ++ a1) t118 _ A8.out).mono ?_); rintro e w' ⟨rfl, ⟨nd, rfl⟩⟩) | (go_at_call 12; (with_reducible refine (css_Filter.calls k t115 t119 _ A10.out).mono ?_); rintro e w' ⟨rfl, ⟨nd, rfl⟩⟩) | (go_at_call 14; (with_reducible refine (stolelaw12_awake.calls k  t123 _ A20.out).mono ?_); rintro e w' ⟨rfl, ⟨nd, rfl⟩⟩))
        go_ret
        exact ⟨by first | rfl | (simp; done) | (simp [*]; done), by repeat (first | exact Drawn0.refl _ | apply Drawn0.step)⟩
      ·rw [if_neg c17] at H
       have c17b0 : (t116.toList == ([90, 103, 111, 116, 109, 112, 108, 90] : List UInt8)) = false := beq_eq_false_iff_ne.mpr c17
       have c17b1 : (t116.toList != ([90, 103, 111, 116, 109, 112, 108, 90] : List UInt8)) = true := bne_iff_ne.mpr c17
       obtain rfl := Option.some.inj H
       go_enter Try.func3, Try.ntmps3
       go_wp2_with (first | ((with_reducible refine gate_callee (f := 12) rfl ?_); refine goesL_ (some 8) rfl rfl Try.func12 (by kernel_rfl) rfl #[.string a0] rfl (by (try simp only [List.map_toArray, List.map_cons, List.map_nil]); first | done | rfl | (simp only [List.length_drop, List.length_take]; rfl)) ?_; (with_reducible refine (css_Filter.calls k a0 t115 _ A3.out).mono ?_); rintro e w' ⟨rfl, ⟨nd, rfl⟩⟩; refine ⟨_, rfl, ?_⟩) | ((with_reducible refine gate_callee (f := 12) rfl ?_); refine goesL_ (some 12) rfl rfl Try.func12 (by kernel_rfl) rfl #[.string (a0 ++ a1)] rfl (by (try simp only [List.map_toArray, List.map_cons, List.map_nil]); first | done | rfl | (simp only [List.length_drop, List.length_take]; rfl)) ?_; (with_reducible refine (css_Filter.calls k (a0 ++ a1) t116 _ A5.out).mono ?_); rintro e w' ⟨rfl, ⟨nd, rfl⟩⟩; refine ⟨_, rfl, ?_⟩) | ((with_reducible refine gate_callee (f := 13) rfl ?_); refine goesL_ (some 15) rfl rfl Try.func13 (by kernel_rfl) rfl #[.string a0] rfl (by (try simp only [List.map_toArray, List.map_cons, List.map_nil]); first | done | rfl | (simp only [List.length_drop, List.length_take]; rfl)) ?_; (with_reducible refine (stoleref1_Filter.calls k a0 t117 _ A6.out).mono ?_); rintro e w' ⟨rfl, ⟨nd, rfl⟩⟩; refine ⟨_, rfl, ?_⟩) | (go_at_call 13; (with_reducible refine (stoleref1_Filter.calls k (a0 ++ a1) t118 _ A8.out).mono ?_); rintro e w' ⟨rfl, ⟨nd, rfl⟩⟩) | (go_at_call 12; (with_reducible refine (css_Filter.calls k t115 t119 _ A10.out).mono ?_); rintro e w' ⟨rfl, ⟨nd, rfl⟩⟩))
       go_ret
       exact ⟨by first | rfl | (simp; done) | (simp [*]; done), by repeat (first | exact Drawn0.refl _ | apply Drawn0.step)⟩
    ·rw [if_neg c11] at H
     have c11b0 : (t119.toList == t115.toList) = false := beq_eq_false_iff_ne.mpr c11
     have c11b1 : (t119.toList != t115.toList) = true := bne_iff_ne.mpr c11
     obtain rfl := Option.some.inj H
     go_enter Try.func3, Try.ntmps3
     go_wp2_with (first | ((with_reducible refine gate_callee (f := 12) rfl ?_); refine goesL_ (some 8) rfl rfl Try.func12 (by kernel_rfl) rfl #[.string a0] rfl (by (try simp only [List.map_toArray, List.map_cons, List.map_nil]); first | done | rfl | (simp only [List.length_drop, List.length_take]; rfl)) ?_; (with_reducible refine (css_Filter.calls k a0 t115 _ A3.out).mono ?_); rintro e w' ⟨rfl, ⟨nd, rfl⟩⟩; refine ⟨_, rfl, ?_⟩) | ((with_reducible refine gate_callee (f := 12) rfl ?_); refine goesL_ (some 12) rfl rfl Try.func12 (by kernel_rfl) rfl #[.string (a0 ++ a1)] rfl (by (try simp only [List.map_toArray, List.map_cons, List.map_nil]); first | done | rfl | (simp only [List.length_drop, List.length_take]; rfl)) ?_; (with_reducible refine (css_Filter.calls k (a0 ++ a1) t116 _ A5.out).mono ?_); rintro e w' ⟨rfl, ⟨nd, rfl⟩⟩; refine ⟨_, rfl, ?_⟩) | ((with_reducible refine gate_callee (f := 13) rfl ?_); refine goesL_ (some 15) rfl rfl Try.func13 (by kernel_rfl) rfl #[.string a0] rfl (by (try simp only [List.map_toArray, List.map_cons, List.map_nil]); first | done | rfl | (simp only [List.length_drop, List.length_take]; rfl)) ?_; (with_reducible refine (stoleref1_Filter.calls k a0 t117 _ A6.out).mono ?_); rintro e w' ⟨rfl, ⟨nd, rfl⟩⟩; refine ⟨_, rfl, ?_⟩) | (go_at_call 13; (with_reducible refine (stoleref1_Filter.calls k (a0 ++ a1) t118 _ A8.out).mono ?_); rintro e w' ⟨rfl, ⟨nd, rfl⟩⟩) | (go_at_call 12; (with_reducible refine (css_Filter.calls k t115 t119 _ A10.out).mono ?_); rintro e w' ⟨rfl, ⟨nd, rfl⟩⟩))
     go_ret
     exact ⟨by first | rfl | (simp; done) | (simp [*]; done), by repeat (first | exact Drawn0.refl _ | apply Drawn0.step)⟩
   ·rw [if_neg c9] at H
    have c9b0 : (t116.toList == t118.toList) = false := beq_eq_false_iff_ne.mpr c9
    have c9b1 : (t116.toList != t118.toList) = true := bne_iff_ne.mpr c9
    obtain rfl := Option.some.inj H
    go_enter Try.func3, Try.ntmps3
    go_wp2_with (first | ((with_reducible refine gate_callee (f := 12) rfl ?_); refine goesL_ (some 8) rfl rfl Try.func12 (by kernel_rfl) rfl #[.string a0] rfl (by (try simp only [List.map_toArray, List.map_cons, List.map_nil]); first | done | rfl | (simp only [List.length_drop, List.length_take]; rfl)) ?_; (with_reducible refine (css_Filter.calls k a0 t115 _ A3.out).mono ?_); rintro e w' ⟨rfl, ⟨nd, rfl⟩⟩; refine ⟨_, rfl, ?_⟩) | ((with_reducible refine gate_callee (f := 12) rfl ?_); refine goesL_ (some 12) rfl rfl Try.func12 (by kernel_rfl) rfl #[.string (a0 ++ a1)] rfl (by (try simp only [List.map_toArray, List.map_cons, List.map_nil]); first | done | rfl | (simp only [List.length_drop, List.length_take]; rfl)) ?_; (with_reducible refine (css_Filter.calls k (a0 ++ a1) t116 _ A5.out).mono ?_); rintro e w' ⟨rfl, ⟨nd, rfl⟩⟩; refine ⟨_, rfl, ?_⟩) | ((with_reducible refine gate_callee (f := 13) rfl ?_); refine goesL_ (some 15) rfl rfl Try.func13 (by kernel_rfl) rfl #[.string a0] rfl (by (try simp only [List.map_toArray, List.map_cons, List.map_nil]); first | done | rfl | (simp only [List.length_drop, List.length_take]; rfl)) ?_; (with_reducible refine (stoleref1_Filter.calls k a0 t117 _ A6.out).mono ?_); rintro e w' ⟨rfl, ⟨nd, rfl⟩⟩; refine ⟨_, rfl, ?_⟩) | (go_at_call 13; (with_reducible refine (stoleref1_Filter.calls k (a0 ++ a1) t118 _ A8.out).mono ?_); rintro e w' ⟨rfl, ⟨nd, rfl⟩⟩))
    go_ret
    exact ⟨by first | rfl | (simp; done) | (simp [*]; done), by repeat (first | exact Drawn0.refl _ | apply Drawn0.step)⟩
  ·rw [if_neg c7] at H
   have c7b0 : (t115.toList == t117.toList) = false := beq_eq_false_iff_ne.mpr c7
   have c7b1 : (t115.toList != t117.toList) = true := bne_iff_ne.mpr c7
   obtain rfl := Option.some.inj H
   go_enter Try.func3, Try.ntmps3
   go_wp2_with (first | ((with_reducible refine gate_callee (f := 12) rfl ?_); refine goesL_ (some 8) rfl rfl Try.func12 (by kernel_rfl) rfl #[.string a0] rfl (by (try simp only [List.map_toArray, List.map_cons, List.map_nil]); first | done | rfl | (simp only [List.length_drop, List.length_take]; rfl)) ?_; (with_reducible refine (css_Filter.calls k a0 t115 _ A3.out).mono ?_); rintro e w' ⟨rfl, ⟨nd, rfl⟩⟩; refine ⟨_, rfl, ?_⟩) | ((with_reducible refine gate_callee (f := 12) rfl ?_); refine goesL_ (some 12) rfl rfl Try.func12 (by kernel_rfl) rfl #[.string (a0 ++ a1)] rfl (by (try simp only [List.map_toArray, List.map_cons, List.map_nil]); first | done | rfl | (simp only [List.length_drop, List.length_take]; rfl)) ?_; (with_reducible refine (css_Filter.calls k (a0 ++ a1) t116 _ A5.out).mono ?_); rintro e w' ⟨rfl, ⟨nd, rfl⟩⟩; refine ⟨_, rfl, ?_⟩) | ((with_reducible refine gate_callee (f := 13) rfl ?_); refine goesL_ (some 15) rfl rfl Try.func13 (by kernel_rfl) rfl #[.string a0] rfl (by (try simp only [List.map_toArray, List.map_cons, List.map_nil]); first | done | rfl | (simp only [List.length_drop, List.length_take]; rfl)) ?_; (with_reducible refine (stoleref1_Filter.calls k a0 t117 _ A6.out).mono ?_); rintro e w' ⟨rfl, ⟨nd, rfl⟩⟩; refine ⟨_, rfl, ?_⟩))
   go_ret
   exact ⟨by first | rfl | (simp; done) | (simp [*]; done), by repeat (first | exact Drawn0.refl _ | apply Drawn0.step)⟩
 ·rw [if_neg c4] at H
  exact absurd H (by simp)

/-- THE ONE PURE STATEMENT of stolelaw12_Filters: yours. -/
def stolelaw12_Filters.Pure : Prop := ∀ (a0 : ByteArray) (a1 : ByteArray), a0.size ≤ 140737488351232 → a1.size ≤ 140737488351232 → ∃ k, stolelaw12_Filters.f k a0 a1 = some true
theorem stolelaw12_Filters.walk (P : stolelaw12_Filters.Pure) (a0 : ByteArray) (a1 : ByteArray) (w : World) (w0 : a0.size ≤ 140737488351232) (w1 : a1.size ≤ 140737488351232) :
  Calls Try.prog 3 #[.string a0, .string a1] w fun e w' => e = .returned (.bool true) ∧ Below w.heap.size w w' := by
 obtain ⟨k, h⟩ := P a0 a1 w0 w1
 refine (stolelaw12_Filters.calls k a0 a1 true w h).mono ?_
 rintro e w' ⟨rfl, hd⟩
 exact ⟨rfl, hd.below⟩

end Go.Proofs.Ytnhhbfanpnpgdaa.XF
