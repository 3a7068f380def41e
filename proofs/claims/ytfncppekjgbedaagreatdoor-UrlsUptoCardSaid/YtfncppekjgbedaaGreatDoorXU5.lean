/- Laid by xprint.py, a program of this session over the kit's print: for each Go function one Lean function of the same answers, and the walk that shows it. -/
import Derived.Test.YtfncppekjgbedaaGreatDoorXU0
import Derived.Test.YtfncppekjgbedaaGreatDoorXU2
import Derived.Test.YtfncppekjgbedaaGreatDoorXU4
namespace Go.Proofs.YtfncppekjgbedaaGreatDoor.XU
open Go.RowKit Go.Proofs.YtfncppekjgbedaaGreatDoor.Ext Go.Proofs.YtfncppekjgbedaaGreatDoor.Utf Go.Proofs.YtfncppekjgbedaaGreatDoorW.PrintWords Go.Proofs.YtfncppekjgbedaaGreatDoorW.PrintLast Go.Proofs.YtfncppekjgbedaaGreatDoorW.PrintMore
attribute [local go_sem] max2_int min2_int max_two min_two max_three min_three max_four min_four   -- for this text's walks alone
set_option linter.unusedVariables false
set_option linter.unusedSimpArgs false

/-! ### stolelaw0_Num: function 25 -/
def stolelaw0_Num.f (a0 : Int) : Option (Int) := some a0
set_option maxHeartbeats 8000000 in
set_option maxRecDepth 100000 in
theorem stolelaw0_Num.calls (a0 : Int) (r : Int) (w : World) (h : stolelaw0_Num.f a0 = some r) :
  Calls Tryz.prog 25 #[.int .i64 a0] w fun e w' => e = .returned (.int .i64 r) ∧ Drawn0 w w' := by
 have H : (some a0) = some r := h
 clear h
 obtain rfl := Option.some.inj H
 go_enter Tryz.func25, Tryz.ntmps25
 go_wp2
 go_ret
 exact ⟨by first | rfl | (simp; done) | (simp [*]; done), by repeat (first | exact Drawn0.refl _ | apply Drawn0.step)⟩

/-! ### stolelaw9_awake: function 10 -/
def stolelaw9_awake.f  : Option (Bool) := (url_Scheme.f (⟨#[32, 74, 97, 118, 97, 9, 83, 99, 114, 105, 112, 116, 58, 120]⟩ : ByteArray)).bind fun bt172 => ((url_Scheme.f (⟨#[97, 47, 98, 58, 99]⟩ : ByteArray)).bind fun bt174 => (if bt172.1.toList = ([106, 97, 118, 97, 115, 99, 114, 105, 112, 116] : List UInt8) then (if bt172.2 = true then (if bt174.2 = true then (some false) else ((url_Start.f (⟨#[106, 97, 118, 97, 115, 99, 114, 105, 112, 116, 58, 120]⟩ : ByteArray)).bind fun t176 => (if t176.toList = ([35, 90, 103, 111, 116, 109, 112, 108, 90] : List UInt8) then ((url_Start.f (⟨#[72, 84, 84, 80, 58, 47, 47, 97, 32, 98]⟩ : ByteArray)).bind fun t177 => (if t177.toList = ([72, 84, 84, 80, 58, 47, 47, 97, 37, 50, 48, 98] : List UInt8) then ((url_Part.f (⟨#[97, 47, 98, 195, 169]⟩ : ByteArray)).bind fun t178 => (if t178.toList = ([97, 37, 50, 70, 98, 37, 67, 51, 37, 65, 57] : List UInt8) then ((stolelaw0_Num.f 0).bind fun t179 => (some (t179 == 0))) else (some false))) else (some false))) else (some false)))) else (some false)) else (some false)))
set_option maxHeartbeats 8000000 in
set_option maxRecDepth 100000 in
theorem stolelaw9_awake.calls  (r : Bool) (w : World) (hT : Tabs w) (h : stolelaw9_awake.f  = some r) :
  Calls Tryz.prog 10 #[] w fun e w' => e = .returned (.bool r) ∧ Below w.heap.size w w' := by
 have HT := Aside0.mk hT
 clear hT
 have HB := Aside0.mk (Below.refl w.heap.size w)
 have H : ((url_Scheme.f (⟨#[32, 74, 97, 118, 97, 9, 83, 99, 114, 105, 112, 116, 58, 120]⟩ : ByteArray)).bind fun bt172 => ((url_Scheme.f (⟨#[97, 47, 98, 58, 99]⟩ : ByteArray)).bind fun bt174 => (if bt172.1.toList = ([106, 97, 118, 97, 115, 99, 114, 105, 112, 116] : List UInt8) then (if bt172.2 = true then (if bt174.2 = true then (some false) else ((url_Start.f (⟨#[106, 97, 118, 97, 115, 99, 114, 105, 112, 116, 58, 120]⟩ : ByteArray)).bind fun t176 => (if t176.toList = ([35, 90, 103, 111, 116, 109, 112, 108, 90] : List UInt8) then ((url_Start.f (⟨#[72, 84, 84, 80, 58, 47, 47, 97, 32, 98]⟩ : ByteArray)).bind fun t177 => (if t177.toList = ([72, 84, 84, 80, 58, 47, 47, 97, 37, 50, 48, 98] : List UInt8) then ((url_Part.f (⟨#[97, 47, 98, 195, 169]⟩ : ByteArray)).bind fun t178 => (if t178.toList = ([97, 37, 50, 70, 98, 37, 67, 51, 37, 65, 57] : List UInt8) then ((stolelaw0_Num.f 0).bind fun t179 => (some (t179 == 0))) else (some false))) else (some false))) else (some false)))) else (some false)) else (some false)))) = some r := h
 clear h
 replace H := Option.bind_eq_some_iff.mp H
 obtain ⟨⟨t172, t173⟩, A10, H⟩ := H
 replace H : ((url_Scheme.f (⟨#[97, 47, 98, 58, 99]⟩ : ByteArray)).bind fun bt174 => (if t172.toList = ([106, 97, 118, 97, 115, 99, 114, 105, 112, 116] : List UInt8) then (if t173 = true then (if bt174.2 = true then (some false) else ((url_Start.f (⟨#[106, 97, 118, 97, 115, 99, 114, 105, 112, 116, 58, 120]⟩ : ByteArray)).bind fun t176 => (if t176.toList = ([35, 90, 103, 111, 116, 109, 112, 108, 90] : List UInt8) then ((url_Start.f (⟨#[72, 84, 84, 80, 58, 47, 47, 97, 32, 98]⟩ : ByteArray)).bind fun t177 => (if t177.toList = ([72, 84, 84, 80, 58, 47, 47, 97, 37, 50, 48, 98] : List UInt8) then ((url_Part.f (⟨#[97, 47, 98, 195, 169]⟩ : ByteArray)).bind fun t178 => (if t178.toList = ([97, 37, 50, 70, 98, 37, 67, 51, 37, 65, 57] : List UInt8) then ((stolelaw0_Num.f 0).bind fun t179 => (some (t179 == 0))) else (some false))) else (some false))) else (some false)))) else (some false)) else (some false))) = some r := H
 have A1 := Aside0.mk A10
 clear A10
 replace H := Option.bind_eq_some_iff.mp H
 obtain ⟨⟨t174, t175⟩, A20, H⟩ := H
 replace H : (if t172.toList = ([106, 97, 118, 97, 115, 99, 114, 105, 112, 116] : List UInt8) then (if t173 = true then (if t175 = true then (some false) else ((url_Start.f (⟨#[106, 97, 118, 97, 115, 99, 114, 105, 112, 116, 58, 120]⟩ : ByteArray)).bind fun t176 => (if t176.toList = ([35, 90, 103, 111, 116, 109, 112, 108, 90] : List UInt8) then ((url_Start.f (⟨#[72, 84, 84, 80, 58, 47, 47, 97, 32, 98]⟩ : ByteArray)).bind fun t177 => (if t177.toList = ([72, 84, 84, 80, 58, 47, 47, 97, 37, 50, 48, 98] : List UInt8) then ((url_Part.f (⟨#[97, 47, 98, 195, 169]⟩ : ByteArray)).bind fun t178 => (if t178.toList = ([97, 37, 50, 70, 98, 37, 67, 51, 37, 65, 57] : List UInt8) then ((stolelaw0_Num.f 0).bind fun t179 => (some (t179 == 0))) else (some false))) else (some false))) else (some false)))) else (some false)) else (some false)) = some r := H
 have A2 := Aside0.mk A20
 clear A20
 by_cases c3 : t172.toList = ([106, 97, 118, 97, 115, 99, 114, 105, 112, 116] : List UInt8)
 ·rw [if_pos c3] at H
  have c3b0 : (t172.toList == ([106, 97, 118, 97, 115, 99, 114, 105, 112, 116] : List UInt8)) = true := beq_iff_eq.mpr c3
  have c3b1 : (t172.toList != ([106, 97, 118, 97, 115, 99, 114, 105, 112, 116] : List UInt8)) = false := bne_eq_false_iff_eq.mpr c3
  clear c3
  by_cases c4 : t173 = true
  ·subst c4
   have H1 : (if t175 = true then (some false) else ((url_Start.f (⟨#[106, 97, 118, 97, 115, 99, 114, 105, 112, 116, 58, 120]⟩ : ByteArray)).bind fun t176 => (if t176.toList = ([35, 90, 103, 111, 116, 109, 112, 108, 90] : List UInt8) then ((url_Start.f (⟨#[72, 84, 84, 80, 58, 47, 47, 97, 32, 98]⟩ : ByteArray)).bind fun t177 => (if t177.toList = ([72, 84, 84, 80, 58, 47, 47, 97, 37, 50, 48, 98] : List UInt8) then ((url_Part.f (⟨#[97, 47, 98, 195, 169]⟩ : ByteArray)).bind fun t178 => (if t178.toList = ([97, 37, 50, 70, 98, 37, 67, 51, 37, 65, 57] : List UInt8) then ((stolelaw0_Num.f 0).bind fun t179 => (some (t179 == 0))) else (some false))) else (some false))) else (some false)))) = some r := by rw [if_pos rfl] at H; exact H
   clear H
   have H := H1
   clear H1
   by_cases c5 : t175 = true
   ·subst c5
    have H1 : (some false) = some r := by rw [if_pos rfl] at H; exact H
    clear H
    have H := H1
    clear H1
    obtain rfl := Option.some.inj H
    go_enter Tryz.func10, Tryz.ntmps10
    go_wp2_with (first | ((with_reducible refine gate_callee (f := 4) rfl ?_); refine goesL_ (some 6) rfl rfl Tryz.func4 (by kernel_rfl) rfl #[.string (⟨#[32, 74, 97, 118, 97, 9, 83, 99, 114, 105, 112, 116, 58, 120]⟩ : ByteArray)] rfl (by (try simp only [List.map_toArray, List.map_cons, List.map_nil]); first | done | rfl | (simp only [List.length_drop, List.length_take]; rfl)) ?_; (with_reducible refine (url_Scheme.calls (⟨#[32, 74, 97, 118, 97, 9, 83, 99, 114, 105, 112, 116, 58, 120]⟩ : ByteArray) t172 true _ A1.out).mono ?_); rintro e w6 ⟨rfl, hb⟩; refine ⟨_, rfl, ?_⟩; have n0_ := Aside0.mk (below_step (by repeat (first | (with_reducible first | exact HB.out | apply below_alloc | apply pw_below_drewN | apply below_drew1) | exact HB.out)) hb); clear HB; have HB := n0_; clear n0_; (try clear hb); (try clear hb2); (try clear hk); (try clear hi)) | ((with_reducible refine gate_callee (f := 4) rfl ?_); refine goesL_ (some 10) rfl rfl Tryz.func4 (by kernel_rfl) rfl #[.string (⟨#[97, 47, 98, 58, 99]⟩ : ByteArray)] rfl (by (try simp only [List.map_toArray, List.map_cons, List.map_nil]); first | done | rfl | (simp only [List.length_drop, List.length_take]; rfl)) ?_; (with_reducible refine (url_Scheme.calls (⟨#[97, 47, 98, 58, 99]⟩ : ByteArray) t174 true _ A2.out).mono ?_); rintro e w7 ⟨rfl, hb⟩; refine ⟨_, rfl, ?_⟩; have n0_ := Aside0.mk (below_step (by repeat (first | (with_reducible first | exact HB.out | apply below_alloc | apply pw_below_drewN | apply below_drew1) | exact HB.out)) hb); clear HB; have HB := n0_; clear n0_; (try clear hb); (try clear hb2); (try clear hk); (try clear hi)))
    go_ret
    exact ⟨by first | rfl | (simp [errW_none, errW_some] <;> rfl) | (simp [*, errW_none, errW_some] <;> rfl) | (rw [ne_nil_not]; rfl), by repeat (first | (with_reducible first | exact HB.out | apply below_alloc | apply pw_below_drewN | apply below_drew1) | exact HB.out)⟩
   ·replace c5 := Bool.eq_false_iff.mpr c5
    subst c5
    have H1 : ((url_Start.f (⟨#[106, 97, 118, 97, 115, 99, 114, 105, 112, 116, 58, 120]⟩ : ByteArray)).bind fun t176 => (if t176.toList = ([35, 90, 103, 111, 116, 109, 112, 108, 90] : List UInt8) then ((url_Start.f (⟨#[72, 84, 84, 80, 58, 47, 47, 97, 32, 98]⟩ : ByteArray)).bind fun t177 => (if t177.toList = ([72, 84, 84, 80, 58, 47, 47, 97, 37, 50, 48, 98] : List UInt8) then ((url_Part.f (⟨#[97, 47, 98, 195, 169]⟩ : ByteArray)).bind fun t178 => (if t178.toList = ([97, 37, 50, 70, 98, 37, 67, 51, 37, 65, 57] : List UInt8) then ((stolelaw0_Num.f 0).bind fun t179 => (some (t179 == 0))) else (some false))) else (some false))) else (some false))) = some r := by rw [if_neg (show ¬ (false = true) by decide)] at H; exact H
    clear H
    have H := H1
    clear H1
    replace H := Option.bind_eq_some_iff.mp H
    obtain ⟨t176, A80, H⟩ := H
    replace H : (if t176.toList = ([35, 90, 103, 111, 116, 109, 112, 108, 90] : List UInt8) then ((url_Start.f (⟨#[72, 84, 84, 80, 58, 47, 47, 97, 32, 98]⟩ : ByteArray)).bind fun t177 => (if t177.toList = ([72, 84, 84, 80, 58, 47, 47, 97, 37, 50, 48, 98] : List UInt8) then ((url_Part.f (⟨#[97, 47, 98, 195, 169]⟩ : ByteArray)).bind fun t178 => (if t178.toList = ([97, 37, 50, 70, 98, 37, 67, 51, 37, 65, 57] : List UInt8) then ((stolelaw0_Num.f 0).bind fun t179 => (some (t179 == 0))) else (some false))) else (some false))) else (some false)) = some r := H
    have A8 := Aside0.mk A80
    clear A80
    by_cases c9 : t176.toList = ([35, 90, 103, 111, 116, 109, 112, 108, 90] : List UInt8)
    ·rw [if_pos c9] at H
     have c9b0 : (t176.toList == ([35, 90, 103, 111, 116, 109, 112, 108, 90] : List UInt8)) = true := beq_iff_eq.mpr c9
     have c9b1 : (t176.toList != ([35, 90, 103, 111, 116, 109, 112, 108, 90] : List UInt8)) = false := bne_eq_false_iff_eq.mpr c9
     clear c9
     replace H := Option.bind_eq_some_iff.mp H
     obtain ⟨t177, A100, H⟩ := H
     replace H : (if t177.toList = ([72, 84, 84, 80, 58, 47, 47, 97, 37, 50, 48, 98] : List UInt8) then ((url_Part.f (⟨#[97, 47, 98, 195, 169]⟩ : ByteArray)).bind fun t178 => (if t178.toList = ([97, 37, 50, 70, 98, 37, 67, 51, 37, 65, 57] : List UInt8) then ((stolelaw0_Num.f 0).bind fun t179 => (some (t179 == 0))) else (some false))) else (some false)) = some r := H
     have A10 := Aside0.mk A100
     clear A100
     by_cases c11 : t177.toList = ([72, 84, 84, 80, 58, 47, 47, 97, 37, 50, 48, 98] : List UInt8)
     ·rw [if_pos c11] at H
      have c11b0 : (t177.toList == ([72, 84, 84, 80, 58, 47, 47, 97, 37, 50, 48, 98] : List UInt8)) = true := beq_iff_eq.mpr c11
      have c11b1 : (t177.toList != ([72, 84, 84, 80, 58, 47, 47, 97, 37, 50, 48, 98] : List UInt8)) = false := bne_eq_false_iff_eq.mpr c11
      clear c11
      replace H := Option.bind_eq_some_iff.mp H
      obtain ⟨t178, A120, H⟩ := H
      replace H : (if t178.toList = ([97, 37, 50, 70, 98, 37, 67, 51, 37, 65, 57] : List UInt8) then ((stolelaw0_Num.f 0).bind fun t179 => (some (t179 == 0))) else (some false)) = some r := H
      have A12 := Aside0.mk A120
      clear A120
      by_cases c13 : t178.toList = ([97, 37, 50, 70, 98, 37, 67, 51, 37, 65, 57] : List UInt8)
      ·rw [if_pos c13] at H
       have c13b0 : (t178.toList == ([97, 37, 50, 70, 98, 37, 67, 51, 37, 65, 57] : List UInt8)) = true := beq_iff_eq.mpr c13
       have c13b1 : (t178.toList != ([97, 37, 50, 70, 98, 37, 67, 51, 37, 65, 57] : List UInt8)) = false := bne_eq_false_iff_eq.mpr c13
       clear c13
       replace H := Option.bind_eq_some_iff.mp H
       obtain ⟨t179, A140, H⟩ := H
       replace H : (some (t179 == 0)) = some r := H
       have A14 := Aside0.mk A140
       clear A140
       obtain rfl := Option.some.inj H
       go_enter Tryz.func10, Tryz.ntmps10
       go_wp2_with (first | ((with_reducible refine gate_callee (f := 4) rfl ?_); refine goesL_ (some 6) rfl rfl Tryz.func4 (by kernel_rfl) rfl #[.string (⟨#[32, 74, 97, 118, 97, 9, 83, 99, 114, 105, 112, 116, 58, 120]⟩ : ByteArray)] rfl (by (try simp only [List.map_toArray, List.map_cons, List.map_nil]); first | done | rfl | (simp only [List.length_drop, List.length_take]; rfl)) ?_; (with_reducible refine (url_Scheme.calls (⟨#[32, 74, 97, 118, 97, 9, 83, 99, 114, 105, 112, 116, 58, 120]⟩ : ByteArray) t172 true _ A1.out).mono ?_); rintro e w15 ⟨rfl, hb⟩; refine ⟨_, rfl, ?_⟩; have n0_ := Aside0.mk (below_step (by repeat (first | (with_reducible first | exact HB.out | apply below_alloc | apply pw_below_drewN | apply below_drew1) | exact HB.out)) hb); clear HB; have HB := n0_; clear n0_; (try clear hb); (try clear hb2); (try clear hk); (try clear hi)) | ((with_reducible refine gate_callee (f := 4) rfl ?_); refine goesL_ (some 10) rfl rfl Tryz.func4 (by kernel_rfl) rfl #[.string (⟨#[97, 47, 98, 58, 99]⟩ : ByteArray)] rfl (by (try simp only [List.map_toArray, List.map_cons, List.map_nil]); first | done | rfl | (simp only [List.length_drop, List.length_take]; rfl)) ?_; (with_reducible refine (url_Scheme.calls (⟨#[97, 47, 98, 58, 99]⟩ : ByteArray) t174 false _ A2.out).mono ?_); rintro e w16 ⟨rfl, hb⟩; refine ⟨_, rfl, ?_⟩; have n0_ := Aside0.mk (below_step (by repeat (first | (with_reducible first | exact HB.out | apply below_alloc | apply pw_below_drewN | apply below_drew1) | exact HB.out)) hb); clear HB; have HB := n0_; clear n0_; (try clear hb); (try clear hb2); (try clear hk); (try clear hi)) | (go_at_call 6; (with_reducible refine (url_Start.calls (⟨#[106, 97, 118, 97, 115, 99, 114, 105, 112, 116, 58, 120]⟩ : ByteArray) t176 _ (tabs_below HT.out (by repeat (first | (with_reducible first | exact HB.out | apply below_alloc | apply pw_below_drewN | apply below_drew1) | exact HB.out))) A8.out).mono ?_); rintro e w17 ⟨rfl, hb⟩; have n0_ := Aside0.mk (below_step (by repeat (first | (with_reducible first | exact HB.out | apply below_alloc | apply pw_below_drewN | apply below_drew1) | exact HB.out)) hb); clear HB; have HB := n0_; clear n0_; (try clear hb); (try clear hb2); (try clear hk); (try clear hi)) | (go_at_call 6; (with_reducible refine (url_Start.calls (⟨#[72, 84, 84, 80, 58, 47, 47, 97, 32, 98]⟩ : ByteArray) t177 _ (tabs_below HT.out (by repeat (first | (with_reducible first | exact HB.out | apply below_alloc | apply pw_below_drewN | apply below_drew1) | exact HB.out))) A10.out).mono ?_); rintro e w18 ⟨rfl, hb⟩; have n0_ := Aside0.mk (below_step (by repeat (first | (with_reducible first | exact HB.out | apply below_alloc | apply pw_below_drewN | apply below_drew1) | exact HB.out)) hb); clear HB; have HB := n0_; clear n0_; (try clear hb); (try clear hb2); (try clear hk); (try clear hi)) | (go_at_call 8; (with_reducible refine (url_Part.calls (⟨#[97, 47, 98, 195, 169]⟩ : ByteArray) t178 _ (tabs_below HT.out (by repeat (first | (with_reducible first | exact HB.out | apply below_alloc | apply pw_below_drewN | apply below_drew1) | exact HB.out))) A12.out).mono ?_); rintro e w19 ⟨rfl, hb⟩; have n0_ := Aside0.mk (below_step (by repeat (first | (with_reducible first | exact HB.out | apply below_alloc | apply pw_below_drewN | apply below_drew1) | exact HB.out)) hb); clear HB; have HB := n0_; clear n0_; (try clear hb); (try clear hb2); (try clear hk); (try clear hi)) | (go_at_call 25; (with_reducible refine (stolelaw0_Num.calls 0 t179 _ A14.out).mono ?_); rintro e w' ⟨rfl, ⟨nd, rfl⟩⟩))
       go_ret
       exact ⟨by first | rfl | (simp [errW_none, errW_some] <;> rfl) | (simp [*, errW_none, errW_some] <;> rfl) | (rw [ne_nil_not]; rfl), by repeat (first | (with_reducible first | exact HB.out | apply below_alloc | apply pw_below_drewN | apply below_drew1) | exact HB.out)⟩
      ·rw [if_neg c13] at H
       have c13b0 : (t178.toList == ([97, 37, 50, 70, 98, 37, 67, 51, 37, 65, 57] : List UInt8)) = false := beq_eq_false_iff_ne.mpr c13
       have c13b1 : (t178.toList != ([97, 37, 50, 70, 98, 37, 67, 51, 37, 65, 57] : List UInt8)) = true := bne_iff_ne.mpr c13
       obtain rfl := Option.some.inj H
       go_enter Tryz.func10, Tryz.ntmps10
       go_wp2_with (first | ((with_reducible refine gate_callee (f := 4) rfl ?_); refine goesL_ (some 6) rfl rfl Tryz.func4 (by kernel_rfl) rfl #[.string (⟨#[32, 74, 97, 118, 97, 9, 83, 99, 114, 105, 112, 116, 58, 120]⟩ : ByteArray)] rfl (by (try simp only [List.map_toArray, List.map_cons, List.map_nil]); first | done | rfl | (simp only [List.length_drop, List.length_take]; rfl)) ?_; (with_reducible refine (url_Scheme.calls (⟨#[32, 74, 97, 118, 97, 9, 83, 99, 114, 105, 112, 116, 58, 120]⟩ : ByteArray) t172 true _ A1.out).mono ?_); rintro e w20 ⟨rfl, hb⟩; refine ⟨_, rfl, ?_⟩; have n0_ := Aside0.mk (below_step (by repeat (first | (with_reducible first | exact HB.out | apply below_alloc | apply pw_below_drewN | apply below_drew1) | exact HB.out)) hb); clear HB; have HB := n0_; clear n0_; (try clear hb); (try clear hb2); (try clear hk); (try clear hi)) | ((with_reducible refine gate_callee (f := 4) rfl ?_); refine goesL_ (some 10) rfl rfl Tryz.func4 (by kernel_rfl) rfl #[.string (⟨#[97, 47, 98, 58, 99]⟩ : ByteArray)] rfl (by (try simp only [List.map_toArray, List.map_cons, List.map_nil]); first | done | rfl | (simp only [List.length_drop, List.length_take]; rfl)) ?_; (with_reducible refine (url_Scheme.calls (⟨#[97, 47, 98, 58, 99]⟩ : ByteArray) t174 false _ A2.out).mono ?_); rintro e w21 ⟨rfl, hb⟩; refine ⟨_, rfl, ?_⟩; have n0_ := Aside0.mk (below_step (by repeat (first | (with_reducible first | exact HB.out | apply below_alloc | apply pw_below_drewN | apply below_drew1) | exact HB.out)) hb); clear HB; have HB := n0_; clear n0_; (try clear hb); (try clear hb2); (try clear hk); (try clear hi)) | (go_at_call 6; (with_reducible refine (url_Start.calls (⟨#[106, 97, 118, 97, 115, 99, 114, 105, 112, 116, 58, 120]⟩ : ByteArray) t176 _ (tabs_below HT.out (by repeat (first | (with_reducible first | exact HB.out | apply below_alloc | apply pw_below_drewN | apply below_drew1) | exact HB.out))) A8.out).mono ?_); rintro e w22 ⟨rfl, hb⟩; have n0_ := Aside0.mk (below_step (by repeat (first | (with_reducible first | exact HB.out | apply below_alloc | apply pw_below_drewN | apply below_drew1) | exact HB.out)) hb); clear HB; have HB := n0_; clear n0_; (try clear hb); (try clear hb2); (try clear hk); (try clear hi)) | (go_at_call 6; (with_reducible refine (url_Start.calls (⟨#[72, 84, 84, 80, 58, 47, 47, 97, 32, 98]⟩ : ByteArray) t177 _ (tabs_below HT.out (by repeat (first | (with_reducible first | exact HB.out | apply below_alloc | apply pw_below_drewN | apply below_drew1) | exact HB.out))) A10.out).mono ?_); rintro e w23 ⟨rfl, hb⟩; have n0_ := Aside0.mk (below_step (by repeat (first | (with_reducible first | exact HB.out | apply below_alloc | apply pw_below_drewN | apply below_drew1) | exact HB.out)) hb); clear HB; have HB := n0_; clear n0_; (try clear hb); (try clear hb2); (try clear hk); (try clear hi)) | (go_at_call 8; (with_reducible refine (url_Part.calls (⟨#[97, 47, 98, 195, 169]⟩ : ByteArray) t178 _ (tabs_below HT.out (by repeat (first | (with_reducible first | exact HB.out | apply below_alloc | apply pw_below_drewN | apply below_drew1) | exact HB.out))) A12.out).mono ?_); rintro e w24 ⟨rfl, hb⟩; have n0_ := Aside0.mk (below_step (by repeat (first | (with_reducible first | exact HB.out | apply below_alloc | apply pw_below_drewN | apply below_drew1) | exact HB.out)) hb); clear HB; have HB := n0_; clear n0_; (try clear hb); (try clear hb2); (try clear hk); (try clear hi)))
       go_ret
       exact ⟨by first | rfl | (simp [errW_none, errW_some] <;> rfl) | (simp [*, errW_none, errW_some] <;> rfl) | (rw [ne_nil_not]; rfl), by repeat (first | (with_reducible first | exact HB.out | apply below_alloc | apply pw_below_drewN | apply below_drew1) | exact HB.out)⟩
     ·rw [if_neg c11] at H
      have c11b0 : (t177.toList == ([72, 84, 84, 80, 58, 47, 47, 97, 37, 50, 48, 98] : List UInt8)) = false := beq_eq_false_iff_ne.mpr c11
      have c11b1 : (t177.toList != ([72, 84, 84, 80, 58, 47, 47, 97, 37, 50, 48, 98] : List UInt8)) = true := bne_iff_ne.mpr c11
      obtain rfl := Option.some.inj H
      go_enter Tryz.func10, Tryz.ntmps10
      go_wp2_with (first | ((with_reducible refine gate_callee (f := 4) rfl ?_); refine goesL_ (some 6) rfl rfl Tryz.func4 (by kernel_rfl) rfl #[.string (⟨#[32, 74, 97, 118, 97, 9, 83, 99, 114, 105, 112, 116, 58, 120]⟩ : ByteArray)] rfl (by (try simp only [List.map_toArray, List.map_cons, List.map_nil]); first | done | rfl | (simp only [List.length_drop, List.length_take]; rfl)) ?_; (with_reducible refine (url_Scheme.calls (⟨#[32, 74, 97, 118, 97, 9, 83, 99, 114, 105, 112, 116, 58, 120]⟩ : ByteArray) t172 true _ A1.out).mono ?_); rintro e w25 ⟨rfl, hb⟩; refine ⟨_, rfl, ?_⟩; have n0_ := Aside0.mk (below_step (by repeat (first | (with_reducible first | exact HB.out | apply below_alloc | apply pw_below_drewN | apply below_drew1) | exact HB.out)) hb); clear HB; have HB := n0_; clear n0_; (try clear hb); (try clear hb2); (try clear hk); (try clear hi)) | ((with_reducible refine gate_callee (f := 4) rfl ?_); refine goesL_ (some 10) rfl rfl Tryz.func4 (by kernel_rfl) rfl #[.string (⟨#[97, 47, 98, 58, 99]⟩ : ByteArray)] rfl (by (try simp only [List.map_toArray, List.map_cons, List.map_nil]); first | done | rfl | (simp only [List.length_drop, List.length_take]; rfl)) ?_; (with_reducible refine (url_Scheme.calls (⟨#[97, 47, 98, 58, 99]⟩ : ByteArray) t174 false _ A2.out).mono ?_); rintro e w26 ⟨rfl, hb⟩; refine ⟨_, rfl, ?_⟩; have n0_ := Aside0.mk (below_step (by repeat (first | (with_reducible first | exact HB.out | apply below_alloc | apply pw_below_drewN | apply below_drew1) | exact HB.out)) hb); clear HB; have HB := n0_; clear n0_; (try clear hb); (try clear hb2); (try clear hk); (try clear hi)) | (go_at_call 6; (with_reducible refine (url_Start.calls (⟨#[106, 97, 118, 97, 115, 99, 114, 105, 112, 116, 58, 120]⟩ : ByteArray) t176 _ (tabs_below HT.out (by repeat (first | (with_reducible first | exact HB.out | apply below_alloc | apply pw_below_drewN | apply below_drew1) | exact HB.out))) A8.out).mono ?_); rintro e w27 ⟨rfl, hb⟩; have n0_ := Aside0.mk (below_step (by repeat (first | (with_reducible first | exact HB.out | apply below_alloc | apply pw_below_drewN | apply below_drew1) | exact HB.out)) hb); clear HB; have HB := n0_; clear n0_; (try clear hb); (try clear hb2); (try clear hk); (try clear hi)) | (go_at_call 6; (with_reducible refine (url_Start.calls (⟨#[72, 84, 84, 80, 58, 47, 47, 97, 32, 98]⟩ : ByteArray) t177 _ (tabs_below HT.out (by repeat (first | (with_reducible first | exact HB.out | apply below_alloc | apply pw_below_drewN | apply below_drew1) | exact HB.out))) A10.out).mono ?_); rintro e w28 ⟨rfl, hb⟩; have n0_ := Aside0.mk (below_step (by repeat (first | (with_reducible first | exact HB.out | apply below_alloc | apply pw_below_drewN | apply below_drew1) | exact HB.out)) hb); clear HB; have HB := n0_; clear n0_; (try clear hb); (try clear hb2); (try clear hk); (try clear hi)))
      go_ret
      exact ⟨by first | rfl | (simp [errW_none, errW_some] <;> rfl) | (simp [*, errW_none, errW_some] <;> rfl) | (rw [ne_nil_not]; rfl), by repeat (first | (with_reducible first | exact HB.out | apply below_alloc | apply pw_below_drewN | apply below_drew1) | exact HB.out)⟩
    ·rw [if_neg c9] at H
     have c9b0 : (t176.toList == ([35, 90, 103, 111, 116, 109, 112, 108, 90] : List UInt8)) = false := beq_eq_false_iff_ne.mpr c9
     have c9b1 : (t176.toList != ([35, 90, 103, 111, 116, 109, 112, 108, 90] : List UInt8)) = true := bne_iff_ne.mpr c9
     obtain rfl := Option.some.inj H
     go_enter Tryz.func10, Tryz.ntmps10
     go_wp2_with (first | ((with_reducible refine gate_callee (f := 4) rfl ?_); refine goesL_ (some 6) rfl rfl Tryz.func4 (by kernel_rfl) rfl #[.string (⟨#[32, 74, 97, 118, 97, 9, 83, 99, 114, 105, 112, 116, 58, 120]⟩ : ByteArray)] rfl (by (try simp only [List.map_toArray, List.map_cons, List.map_nil]); first | done | rfl | (simp only [List.length_drop, List.length_take]; rfl)) ?_; (with_reducible refine (url_Scheme.calls (⟨#[32, 74, 97, 118, 97, 9, 83, 99, 114, 105, 112, 116, 58, 120]⟩ : ByteArray) t172 true _ A1.out).mono ?_); rintro e w29 ⟨rfl, hb⟩; refine ⟨_, rfl, ?_⟩; have n0_ := Aside0.mk (below_step (by repeat (first | (with_reducible first | exact HB.out | apply below_alloc | apply pw_below_drewN | apply below_drew1) | exact HB.out)) hb); clear HB; have HB := n0_; clear n0_; (try clear hb); (try clear hb2); (try clear hk); (try clear hi)) | ((with_reducible refine gate_callee (f := 4) rfl ?_); refine goesL_ (some 10) rfl rfl Tryz.func4 (by kernel_rfl) rfl #[.string (⟨#[97, 47, 98, 58, 99]⟩ : ByteArray)] rfl (by (try simp only [List.map_toArray, List.map_cons, List.map_nil]); first | done | rfl | (simp only [List.length_drop, List.length_take]; rfl)) ?_; (with_reducible refine (url_Scheme.calls (⟨#[97, 47, 98, 58, 99]⟩ : ByteArray) t174 false _ A2.out).mono ?_); rintro e w30 ⟨rfl, hb⟩; refine ⟨_, rfl, ?_⟩; have n0_ := Aside0.mk (below_step (by repeat (first | (with_reducible first | exact HB.out | apply below_alloc | apply pw_below_drewN | apply below_drew1) | exact HB.out)) hb); clear HB; have HB := n0_; clear n0_; (try clear hb); (try clear hb2); (try clear hk); (try clear hi)) | (go_at_call 6; (with_reducible refine (url_Start.calls (⟨#[106, 97, 118, 97, 115, 99, 114, 105, 112, 116, 58, 120]⟩ : ByteArray) t176 _ (tabs_below HT.out (by repeat (first | (with_reducible first | exact HB.out | apply below_alloc | apply pw_below_drewN | apply below_drew1) | exact HB.out))) A8.out).mono ?_); rintro e w31 ⟨rfl, hb⟩; have n0_ := Aside0.mk (below_step (by repeat (first | (with_reducible first | exact HB.out | apply below_alloc | apply pw_below_drewN | apply below_drew1) | exact HB.out)) hb); clear HB; have HB := n0_; clear n0_; (try clear hb); (try clear hb2); (try clear hk); (try clear hi)))
     go_ret
     exact ⟨by first | rfl | (simp [errW_none, errW_some] <;> rfl) | (simp [*, errW_none, errW_some] <;> rfl) | (rw [ne_nil_not]; rfl), by repeat (first | (with_reducible first | exact HB.out | apply below_alloc | apply pw_below_drewN | apply below_drew1) | exact HB.out)⟩
  ·replace c4 := Bool.eq_false_iff.mpr c4
   subst c4
   have H1 : (some false) = some r := by rw [if_neg (show ¬ (false = true) by decide)] at H; exact H
   clear H
   have H := H1
   clear H1
   obtain rfl := Option.some.inj H
   go_enter Tryz.func10, Tryz.ntmps10
   go_wp2_with (first | ((with_reducible refine gate_callee (f := 4) rfl ?_); refine goesL_ (some 6) rfl rfl Tryz.func4 (by kernel_rfl) rfl #[.string (⟨#[32, 74, 97, 118, 97, 9, 83, 99, 114, 105, 112, 116, 58, 120]⟩ : ByteArray)] rfl (by (try simp only [List.map_toArray, List.map_cons, List.map_nil]); first | done | rfl | (simp only [List.length_drop, List.length_take]; rfl)) ?_; (with_reducible refine (url_Scheme.calls (⟨#[32, 74, 97, 118, 97, 9, 83, 99, 114, 105, 112, 116, 58, 120]⟩ : ByteArray) t172 false _ A1.out).mono ?_); rintro e w32 ⟨rfl, hb⟩; refine ⟨_, rfl, ?_⟩; have n0_ := Aside0.mk (below_step (by repeat (first | (with_reducible first | exact HB.out | apply below_alloc | apply pw_below_drewN | apply below_drew1) | exact HB.out)) hb); clear HB; have HB := n0_; clear n0_; (try clear hb); (try clear hb2); (try clear hk); (try clear hi)) | ((with_reducible refine gate_callee (f := 4) rfl ?_); refine goesL_ (some 10) rfl rfl Tryz.func4 (by kernel_rfl) rfl #[.string (⟨#[97, 47, 98, 58, 99]⟩ : ByteArray)] rfl (by (try simp only [List.map_toArray, List.map_cons, List.map_nil]); first | done | rfl | (simp only [List.length_drop, List.length_take]; rfl)) ?_; (with_reducible refine (url_Scheme.calls (⟨#[97, 47, 98, 58, 99]⟩ : ByteArray) t174 t175 _ A2.out).mono ?_); rintro e w33 ⟨rfl, hb⟩; refine ⟨_, rfl, ?_⟩; have n0_ := Aside0.mk (below_step (by repeat (first | (with_reducible first | exact HB.out | apply below_alloc | apply pw_below_drewN | apply below_drew1) | exact HB.out)) hb); clear HB; have HB := n0_; clear n0_; (try clear hb); (try clear hb2); (try clear hk); (try clear hi)))
   go_ret
   exact ⟨by first | rfl | (simp [errW_none, errW_some] <;> rfl) | (simp [*, errW_none, errW_some] <;> rfl) | (rw [ne_nil_not]; rfl), by repeat (first | (with_reducible first | exact HB.out | apply below_alloc | apply pw_below_drewN | apply below_drew1) | exact HB.out)⟩
 ·rw [if_neg c3] at H
  have c3b0 : (t172.toList == ([106, 97, 118, 97, 115, 99, 114, 105, 112, 116] : List UInt8)) = false := beq_eq_false_iff_ne.mpr c3
  have c3b1 : (t172.toList != ([106, 97, 118, 97, 115, 99, 114, 105, 112, 116] : List UInt8)) = true := bne_iff_ne.mpr c3
  obtain rfl := Option.some.inj H
  go_enter Tryz.func10, Tryz.ntmps10
  go_wp2_with (first | ((with_reducible refine gate_callee (f := 4) rfl ?_); refine goesL_ (some 6) rfl rfl Tryz.func4 (by kernel_rfl) rfl #[.string (⟨#[32, 74, 97, 118, 97, 9, 83, 99, 114, 105, 112, 116, 58, 120]⟩ : ByteArray)] rfl (by (try simp only [List.map_toArray, List.map_cons, List.map_nil]); first | done | rfl | (simp only [List.length_drop, List.length_take]; rfl)) ?_; (with_reducible refine (url_Scheme.calls (⟨#[32, 74, 97, 118, 97, 9, 83, 99, 114, 105, 112, 116, 58, 120]⟩ : ByteArray) t172 t173 _ A1.out).mono ?_); rintro e w34 ⟨rfl, hb⟩; refine ⟨_, rfl, ?_⟩; have n0_ := Aside0.mk (below_step (by repeat (first | (with_reducible first | exact HB.out | apply below_alloc | apply pw_below_drewN | apply below_drew1) | exact HB.out)) hb); clear HB; have HB := n0_; clear n0_; (try clear hb); (try clear hb2); (try clear hk); (try clear hi)) | ((with_reducible refine gate_callee (f := 4) rfl ?_); refine goesL_ (some 10) rfl rfl Tryz.func4 (by kernel_rfl) rfl #[.string (⟨#[97, 47, 98, 58, 99]⟩ : ByteArray)] rfl (by (try simp only [List.map_toArray, List.map_cons, List.map_nil]); first | done | rfl | (simp only [List.length_drop, List.length_take]; rfl)) ?_; (with_reducible refine (url_Scheme.calls (⟨#[97, 47, 98, 58, 99]⟩ : ByteArray) t174 t175 _ A2.out).mono ?_); rintro e w35 ⟨rfl, hb⟩; refine ⟨_, rfl, ?_⟩; have n0_ := Aside0.mk (below_step (by repeat (first | (with_reducible first | exact HB.out | apply below_alloc | apply pw_below_drewN | apply below_drew1) | exact HB.out)) hb); clear HB; have HB := n0_; clear n0_; (try clear hb); (try clear hb2); (try clear hk); (try clear hi)))
  go_ret
  exact ⟨by first | rfl | (simp [errW_none, errW_some] <;> rfl) | (simp [*, errW_none, errW_some] <;> rfl) | (rw [ne_nil_not]; rfl), by repeat (first | (with_reducible first | exact HB.out | apply below_alloc | apply pw_below_drewN | apply below_drew1) | exact HB.out)⟩

/-! ### stolelaw9_Urls: function 3 -/
def stolelaw9_Urls.f (k : Nat) (a0 : ByteArray) : Option (Bool) := (url_Scheme.f a0).bind fun bt180 => ((stoleref1_Scheme.f k a0).bind fun bt182 => (if bt180.1.toList = bt182.1.toList then (if (bt180.2 == bt182.2) = true then ((url_Start.f a0).bind fun t184 => ((stoleref1_UrlStart.f k a0).bind fun t185 => (if t184.toList = t185.toList then ((url_Part.f a0).bind fun t186 => ((stoleref1_UrlPart.f k a0).bind fun t187 => (if t186.toList = t187.toList then ((stolelaw9_awake.f).bind fun t188 => (some t188)) else (some false)))) else (some false)))) else (some false)) else (some false)))
theorem stolelaw9_Urls.mono : ∀ a0 k, LeO (stolelaw9_Urls.f k a0) (stolelaw9_Urls.f (k + 1) a0) := by
 intro a0 k
 unfold stolelaw9_Urls.f
 repeat' first
   | (with_reducible exact stoleref1_Scheme.mono _ _)
   | (with_reducible exact stoleref1_UrlPart.mono _ _)
   | (with_reducible exact stoleref1_UrlStart.mono _ _)
   | (with_reducible exact LeO.refl _)
   | (with_reducible exact LeO.none _)
   | (with_reducible refine LeO.ite ?_ ?_)
   | (with_reducible refine LeO.bind ?_ (fun _ => ?_))
   | exact stoleref1_Scheme.mono _ _
   | exact stoleref1_UrlPart.mono _ _
   | exact stoleref1_UrlStart.mono _ _
   | exact LeO.none _
   | refine LeO.ite ?_ ?_
   | refine LeO.bind ?_ (fun _ => ?_)
set_option maxHeartbeats 8000000 in
set_option maxRecDepth 100000 in
theorem stolelaw9_Urls.calls (k : Nat) (a0 : ByteArray) (r : Bool) (w : World) (hT : Tabs w) (h : stolelaw9_Urls.f k a0 = some r) :
  Calls Tryz.prog 3 #[.string a0] w fun e w' => e = .returned (.bool r) ∧ Below w.heap.size w w' := by
 have HT := Aside0.mk hT
 clear hT
 have HB := Aside0.mk (Below.refl w.heap.size w)
 have H : ((url_Scheme.f a0).bind fun bt180 => ((stoleref1_Scheme.f k a0).bind fun bt182 => (if bt180.1.toList = bt182.1.toList then (if (bt180.2 == bt182.2) = true then ((url_Start.f a0).bind fun t184 => ((stoleref1_UrlStart.f k a0).bind fun t185 => (if t184.toList = t185.toList then ((url_Part.f a0).bind fun t186 => ((stoleref1_UrlPart.f k a0).bind fun t187 => (if t186.toList = t187.toList then ((stolelaw9_awake.f).bind fun t188 => (some t188)) else (some false)))) else (some false)))) else (some false)) else (some false)))) = some r := h
 clear h
 replace H := Option.bind_eq_some_iff.mp H
 obtain ⟨⟨t180, t181⟩, A20, H⟩ := H
 replace H : ((stoleref1_Scheme.f k a0).bind fun bt182 => (if t180.toList = bt182.1.toList then (if (t181 == bt182.2) = true then ((url_Start.f a0).bind fun t184 => ((stoleref1_UrlStart.f k a0).bind fun t185 => (if t184.toList = t185.toList then ((url_Part.f a0).bind fun t186 => ((stoleref1_UrlPart.f k a0).bind fun t187 => (if t186.toList = t187.toList then ((stolelaw9_awake.f).bind fun t188 => (some t188)) else (some false)))) else (some false)))) else (some false)) else (some false))) = some r := H
 have A2 := Aside0.mk A20
 clear A20
 replace H := Option.bind_eq_some_iff.mp H
 obtain ⟨⟨t182, t183⟩, A30, H⟩ := H
 replace H : (if t180.toList = t182.toList then (if (t181 == t183) = true then ((url_Start.f a0).bind fun t184 => ((stoleref1_UrlStart.f k a0).bind fun t185 => (if t184.toList = t185.toList then ((url_Part.f a0).bind fun t186 => ((stoleref1_UrlPart.f k a0).bind fun t187 => (if t186.toList = t187.toList then ((stolelaw9_awake.f).bind fun t188 => (some t188)) else (some false)))) else (some false)))) else (some false)) else (some false)) = some r := H
 have A3 := Aside0.mk A30
 clear A30
 by_cases c4 : t180.toList = t182.toList
 ·rw [if_pos c4] at H
  have c4b0 : (t180.toList == t182.toList) = true := beq_iff_eq.mpr c4
  have c4b1 : (t180.toList != t182.toList) = false := bne_eq_false_iff_eq.mpr c4
  clear c4
  by_cases c5 : (t181 == t183) = true
  ·rw [if_pos c5] at H
   have c5b0 : (t181 == t183) = true := c5
   (try (have c5b1 : decide (t181 = t183) = true := by simpa using c5))
   (try (have c5b2 : (t181 == t183) = true := by simpa using c5))
   clear c5
   replace H := Option.bind_eq_some_iff.mp H
   obtain ⟨t184, A60, H⟩ := H
   replace H : ((stoleref1_UrlStart.f k a0).bind fun t185 => (if t184.toList = t185.toList then ((url_Part.f a0).bind fun t186 => ((stoleref1_UrlPart.f k a0).bind fun t187 => (if t186.toList = t187.toList then ((stolelaw9_awake.f).bind fun t188 => (some t188)) else (some false)))) else (some false))) = some r := H
   have A6 := Aside0.mk A60
   clear A60
   replace H := Option.bind_eq_some_iff.mp H
   obtain ⟨t185, A70, H⟩ := H
   replace H : (if t184.toList = t185.toList then ((url_Part.f a0).bind fun t186 => ((stoleref1_UrlPart.f k a0).bind fun t187 => (if t186.toList = t187.toList then ((stolelaw9_awake.f).bind fun t188 => (some t188)) else (some false)))) else (some false)) = some r := H
   have A7 := Aside0.mk A70
   clear A70
   by_cases c8 : t184.toList = t185.toList
   ·rw [if_pos c8] at H
    have c8b0 : (t184.toList == t185.toList) = true := beq_iff_eq.mpr c8
    have c8b1 : (t184.toList != t185.toList) = false := bne_eq_false_iff_eq.mpr c8
    clear c8
    replace H := Option.bind_eq_some_iff.mp H
    obtain ⟨t186, A90, H⟩ := H
    replace H : ((stoleref1_UrlPart.f k a0).bind fun t187 => (if t186.toList = t187.toList then ((stolelaw9_awake.f).bind fun t188 => (some t188)) else (some false))) = some r := H
    have A9 := Aside0.mk A90
    clear A90
    replace H := Option.bind_eq_some_iff.mp H
    obtain ⟨t187, A100, H⟩ := H
    replace H : (if t186.toList = t187.toList then ((stolelaw9_awake.f).bind fun t188 => (some t188)) else (some false)) = some r := H
    have A10 := Aside0.mk A100
    clear A100
    by_cases c11 : t186.toList = t187.toList
    ·rw [if_pos c11] at H
     have c11b0 : (t186.toList == t187.toList) = true := beq_iff_eq.mpr c11
     have c11b1 : (t186.toList != t187.toList) = false := bne_eq_false_iff_eq.mpr c11
     clear c11
     replace H := Option.bind_eq_some_iff.mp H
     obtain ⟨t188, A120, H⟩ := H
     replace H : (some t188) = some r := H
     have A12 := Aside0.mk A120
     clear A120
     obtain rfl := Option.some.inj H
     go_enter Tryz.func3, Tryz.ntmps3
     go_wp2_with (first | ((with_reducible refine gate_callee (f := 4) rfl ?_); refine goesL_ (some 9) rfl rfl Tryz.func4 (by kernel_rfl) rfl #[.string a0] rfl (by (try simp only [List.map_toArray, List.map_cons, List.map_nil]); first | done | rfl | (simp only [List.length_drop, List.length_take]; rfl)) ?_; (with_reducible refine (url_Scheme.calls a0 t180 t181 _ A2.out).mono ?_); rintro e w13 ⟨rfl, hb⟩; refine ⟨_, rfl, ?_⟩; have n0_ := Aside0.mk (below_step (by repeat (first | (with_reducible first | exact HB.out | apply below_alloc | apply pw_below_drewN | apply below_drew1) | exact HB.out)) hb); clear HB; have HB := n0_; clear n0_; (try clear hb); (try clear hb2); (try clear hk); (try clear hi)) | ((with_reducible refine gate_callee (f := 5) rfl ?_); refine goesL_ (some 14) rfl rfl Tryz.func5 (by kernel_rfl) rfl #[.string a0] rfl (by (try simp only [List.map_toArray, List.map_cons, List.map_nil]); first | done | rfl | (simp only [List.length_drop, List.length_take]; rfl)) ?_; (with_reducible refine (stoleref1_Scheme.calls k a0 t182 t183 _ A3.out).mono ?_); rintro e w14 ⟨rfl, hb⟩; refine ⟨_, rfl, ?_⟩; have n0_ := Aside0.mk (below_step (by repeat (first | (with_reducible first | exact HB.out | apply below_alloc | apply pw_below_drewN | apply below_drew1) | exact HB.out)) hb); clear HB; have HB := n0_; clear n0_; (try clear hb); (try clear hb2); (try clear hk); (try clear hi)) | (go_at_call 6; (with_reducible refine (url_Start.calls a0 t184 _ (tabs_below HT.out (by repeat (first | (with_reducible first | exact HB.out | apply below_alloc | apply pw_below_drewN | apply below_drew1) | exact HB.out))) A6.out).mono ?_); rintro e w15 ⟨rfl, hb⟩; have n0_ := Aside0.mk (below_step (by repeat (first | (with_reducible first | exact HB.out | apply below_alloc | apply pw_below_drewN | apply below_drew1) | exact HB.out)) hb); clear HB; have HB := n0_; clear n0_; (try clear hb); (try clear hb2); (try clear hk); (try clear hi)) | (go_at_call 7; (with_reducible refine (stoleref1_UrlStart.calls k a0 t185 _ A7.out).mono ?_); rintro e w16 ⟨rfl, hb⟩; have n0_ := Aside0.mk (below_step (by repeat (first | (with_reducible first | exact HB.out | apply below_alloc | apply pw_below_drewN | apply below_drew1) | exact HB.out)) hb); clear HB; have HB := n0_; clear n0_; (try clear hb); (try clear hb2); (try clear hk); (try clear hi)) | (go_at_call 8; (with_reducible refine (url_Part.calls a0 t186 _ (tabs_below HT.out (by repeat (first | (with_reducible first | exact HB.out | apply below_alloc | apply pw_below_drewN | apply below_drew1) | exact HB.out))) A9.out).mono ?_); rintro e w17 ⟨rfl, hb⟩; have n0_ := Aside0.mk (below_step (by repeat (first | (with_reducible first | exact HB.out | apply below_alloc | apply pw_below_drewN | apply below_drew1) | exact HB.out)) hb); clear HB; have HB := n0_; clear n0_; (try clear hb); (try clear hb2); (try clear hk); (try clear hi)) | (go_at_call 9; (with_reducible refine (stoleref1_UrlPart.calls k a0 t187 _ A10.out).mono ?_); rintro e w18 ⟨rfl, hb⟩; have n0_ := Aside0.mk (below_step (by repeat (first | (with_reducible first | exact HB.out | apply below_alloc | apply pw_below_drewN | apply below_drew1) | exact HB.out)) hb); clear HB; have HB := n0_; clear n0_; (try clear hb); (try clear hb2); (try clear hk); (try clear hi)) | (go_at_call 10; (with_reducible refine (stolelaw9_awake.calls  t188 _ (tabs_below HT.out (by repeat (first | (with_reducible first | exact HB.out | apply below_alloc | apply pw_below_drewN | apply below_drew1) | exact HB.out))) A12.out).mono ?_); rintro e w19 ⟨rfl, hb⟩; have n0_ := Aside0.mk (below_step (by repeat (first | (with_reducible first | exact HB.out | apply below_alloc | apply pw_below_drewN | apply below_drew1) | exact HB.out)) hb); clear HB; have HB := n0_; clear n0_; (try clear hb); (try clear hb2); (try clear hk); (try clear hi)))
     go_ret
     exact ⟨by first | rfl | (simp [errW_none, errW_some] <;> rfl) | (simp [*, errW_none, errW_some] <;> rfl) | (rw [ne_nil_not]; rfl), by repeat (first | (with_reducible first | exact HB.out | apply below_alloc | apply pw_below_drewN | apply below_drew1) | exact HB.out)⟩
    ·rw [if_neg c11] at H
     have c11b0 : (t186.toList == t187.toList) = false := beq_eq_false_iff_ne.mpr c11
     have c11b1 : (t186.toList != t187.toList) = true := bne_iff_ne.mpr c11
     obtain rfl := Option.some.inj H
     go_enter Tryz.func3, Tryz.ntmps3
     go_wp2_with (first | ((with_reducible refine gate_callee (f := 4) rfl ?_); refine goesL_ (some 9) rfl rfl Tryz.func4 (by kernel_rfl) rfl #[.string a0] rfl (by (try simp only [List.map_toArray, List.map_cons, List.map_nil]); first | done | rfl | (simp only [List.length_drop, List.length_take]; rfl)) ?_; (with_reducible refine (url_Scheme.calls a0 t180 t181 _ A2.out).mono ?_); rintro e w20 ⟨rfl, hb⟩; refine ⟨_, rfl, ?_⟩; have n0_ := Aside0.mk (below_step (by repeat (first | (with_reducible first | exact HB.out | apply below_alloc | apply pw_below_drewN | apply below_drew1) | exact HB.out)) hb); clear HB; have HB := n0_; clear n0_; (try clear hb); (try clear hb2); (try clear hk); (try clear hi)) | ((with_reducible refine gate_callee (f := 5) rfl ?_); refine goesL_ (some 14) rfl rfl Tryz.func5 (by kernel_rfl) rfl #[.string a0] rfl (by (try simp only [List.map_toArray, List.map_cons, List.map_nil]); first | done | rfl | (simp only [List.length_drop, List.length_take]; rfl)) ?_; (with_reducible refine (stoleref1_Scheme.calls k a0 t182 t183 _ A3.out).mono ?_); rintro e w21 ⟨rfl, hb⟩; refine ⟨_, rfl, ?_⟩; have n0_ := Aside0.mk (below_step (by repeat (first | (with_reducible first | exact HB.out | apply below_alloc | apply pw_below_drewN | apply below_drew1) | exact HB.out)) hb); clear HB; have HB := n0_; clear n0_; (try clear hb); (try clear hb2); (try clear hk); (try clear hi)) | (go_at_call 6; (with_reducible refine (url_Start.calls a0 t184 _ (tabs_below HT.out (by repeat (first | (with_reducible first | exact HB.out | apply below_alloc | apply pw_below_drewN | apply below_drew1) | exact HB.out))) A6.out).mono ?_); rintro e w22 ⟨rfl, hb⟩; have n0_ := Aside0.mk (below_step (by repeat (first | (with_reducible first | exact HB.out | apply below_alloc | apply pw_below_drewN | apply below_drew1) | exact HB.out)) hb); clear HB; have HB := n0_; clear n0_; (try clear hb); (try clear hb2); (try clear hk); (try clear hi)) | (go_at_call 7; (with_reducible refine (stoleref1_UrlStart.calls k a0 t185 _ A7.out).mono ?_); rintro e w23 ⟨rfl, hb⟩; have n0_ := Aside0.mk (below_step (by repeat (first | (with_reducible first | exact HB.out | apply below_alloc | apply pw_below_drewN | apply below_drew1) | exact HB.out)) hb); clear HB; have HB := n0_; clear n0_; (try clear hb); (try clear hb2); (try clear hk); (try clear hi)) | (go_at_call 8; (with_reducible refine (url_Part.calls a0 t186 _ (tabs_below HT.out (by repeat (first | (with_reducible first | exact HB.out | apply below_alloc | apply pw_below_drewN | apply below_drew1) | exact HB.out))) A9.out).mono ?_); rintro e w24 ⟨rfl, hb⟩; have n0_ := Aside0.mk (below_step (by repeat (first | (with_reducible first | exact HB.out | apply below_alloc | apply pw_below_drewN | apply below_drew1) | exact HB.out)) hb); clear HB; have HB := n0_; clear n0_; (try clear hb); (try clear hb2); (try clear hk); (try clear hi)) | (go_at_call 9; (with_reducible refine (stoleref1_UrlPart.calls k a0 t187 _ A10.out).mono ?_); rintro e w25 ⟨rfl, hb⟩; have n0_ := Aside0.mk (below_step (by repeat (first | (with_reducible first | exact HB.out | apply below_alloc | apply pw_below_drewN | apply below_drew1) | exact HB.out)) hb); clear HB; have HB := n0_; clear n0_; (try clear hb); (try clear hb2); (try clear hk); (try clear hi)))
     go_ret
     exact ⟨by first | rfl | (simp [errW_none, errW_some] <;> rfl) | (simp [*, errW_none, errW_some] <;> rfl) | (rw [ne_nil_not]; rfl), by repeat (first | (with_reducible first | exact HB.out | apply below_alloc | apply pw_below_drewN | apply below_drew1) | exact HB.out)⟩
   ·rw [if_neg c8] at H
    have c8b0 : (t184.toList == t185.toList) = false := beq_eq_false_iff_ne.mpr c8
    have c8b1 : (t184.toList != t185.toList) = true := bne_iff_ne.mpr c8
    obtain rfl := Option.some.inj H
    go_enter Tryz.func3, Tryz.ntmps3
    go_wp2_with (first | ((with_reducible refine gate_callee (f := 4) rfl ?_); refine goesL_ (some 9) rfl rfl Tryz.func4 (by kernel_rfl) rfl #[.string a0] rfl (by (try simp only [List.map_toArray, List.map_cons, List.map_nil]); first | done | rfl | (simp only [List.length_drop, List.length_take]; rfl)) ?_; (with_reducible refine (url_Scheme.calls a0 t180 t181 _ A2.out).mono ?_); rintro e w26 ⟨rfl, hb⟩; refine ⟨_, rfl, ?_⟩; have n0_ := Aside0.mk (below_step (by repeat (first | (with_reducible first | exact HB.out | apply below_alloc | apply pw_below_drewN | apply below_drew1) | exact HB.out)) hb); clear HB; have HB := n0_; clear n0_; (try clear hb); (try clear hb2); (try clear hk); (try clear hi)) | ((with_reducible refine gate_callee (f := 5) rfl ?_); refine goesL_ (some 14) rfl rfl Tryz.func5 (by kernel_rfl) rfl #[.string a0] rfl (by (try simp only [List.map_toArray, List.map_cons, List.map_nil]); first | done | rfl | (simp only [List.length_drop, List.length_take]; rfl)) ?_; (with_reducible refine (stoleref1_Scheme.calls k a0 t182 t183 _ A3.out).mono ?_); rintro e w27 ⟨rfl, hb⟩; refine ⟨_, rfl, ?_⟩; have n0_ := Aside0.mk (below_step (by repeat (first | (with_reducible first | exact HB.out | apply below_alloc | apply pw_below_drewN | apply below_drew1) | exact HB.out)) hb); clear HB; have HB := n0_; clear n0_; (try clear hb); (try clear hb2); (try clear hk); (try clear hi)) | (go_at_call 6; (with_reducible refine (url_Start.calls a0 t184 _ (tabs_below HT.out (by repeat (first | (with_reducible first | exact HB.out | apply below_alloc | apply pw_below_drewN | apply below_drew1) | exact HB.out))) A6.out).mono ?_); rintro e w28 ⟨rfl, hb⟩; have n0_ := Aside0.mk (below_step (by repeat (first | (with_reducible first | exact HB.out | apply below_alloc | apply pw_below_drewN | apply below_drew1) | exact HB.out)) hb); clear HB; have HB := n0_; clear n0_; (try clear hb); (try clear hb2); (try clear hk); (try clear hi)) | (go_at_call 7; (with_reducible refine (stoleref1_UrlStart.calls k a0 t185 _ A7.out).mono ?_); rintro e w29 ⟨rfl, hb⟩; have n0_ := Aside0.mk (below_step (by repeat (first | (with_reducible first | exact HB.out | apply below_alloc | apply pw_below_drewN | apply below_drew1) | exact HB.out)) hb); clear HB; have HB := n0_; clear n0_; (try clear hb); (try clear hb2); (try clear hk); (try clear hi)))
    go_ret
    exact ⟨by first | rfl | (simp [errW_none, errW_some] <;> rfl) | (simp [*, errW_none, errW_some] <;> rfl) | (rw [ne_nil_not]; rfl), by repeat (first | (with_reducible first | exact HB.out | apply below_alloc | apply pw_below_drewN | apply below_drew1) | exact HB.out)⟩
  ·rw [if_neg c5] at H
   have c5b0 : (t181 == t183) = false := by simpa using c5
   (try (have c5b1 : decide (t181 = t183) = false := by simpa using c5))
   (try (have c5b2 : (t181 == t183) = false := by simpa using c5))
   (try (have c5b3 : ¬ (t181 = t183) := by simpa using c5))
   clear c5
   obtain rfl := Option.some.inj H
   go_enter Tryz.func3, Tryz.ntmps3
   go_wp2_with (first | ((with_reducible refine gate_callee (f := 4) rfl ?_); refine goesL_ (some 9) rfl rfl Tryz.func4 (by kernel_rfl) rfl #[.string a0] rfl (by (try simp only [List.map_toArray, List.map_cons, List.map_nil]); first | done | rfl | (simp only [List.length_drop, List.length_take]; rfl)) ?_; (with_reducible refine (url_Scheme.calls a0 t180 t181 _ A2.out).mono ?_); rintro e w30 ⟨rfl, hb⟩; refine ⟨_, rfl, ?_⟩; have n0_ := Aside0.mk (below_step (by repeat (first | (with_reducible first | exact HB.out | apply below_alloc | apply pw_below_drewN | apply below_drew1) | exact HB.out)) hb); clear HB; have HB := n0_; clear n0_; (try clear hb); (try clear hb2); (try clear hk); (try clear hi)) | ((with_reducible refine gate_callee (f := 5) rfl ?_); refine goesL_ (some 14) rfl rfl Tryz.func5 (by kernel_rfl) rfl #[.string a0] rfl (by (try simp only [List.map_toArray, List.map_cons, List.map_nil]); first | done | rfl | (simp only [List.length_drop, List.length_take]; rfl)) ?_; (with_reducible refine (stoleref1_Scheme.calls k a0 t182 t183 _ A3.out).mono ?_); rintro e w31 ⟨rfl, hb⟩; refine ⟨_, rfl, ?_⟩; have n0_ := Aside0.mk (below_step (by repeat (first | (with_reducible first | exact HB.out | apply below_alloc | apply pw_below_drewN | apply below_drew1) | exact HB.out)) hb); clear HB; have HB := n0_; clear n0_; (try clear hb); (try clear hb2); (try clear hk); (try clear hi)))
   go_ret
   exact ⟨by first | rfl | (simp [errW_none, errW_some] <;> rfl) | (simp [*, errW_none, errW_some] <;> rfl) | (rw [ne_nil_not]; rfl), by repeat (first | (with_reducible first | exact HB.out | apply below_alloc | apply pw_below_drewN | apply below_drew1) | exact HB.out)⟩
 ·rw [if_neg c4] at H
  have c4b0 : (t180.toList == t182.toList) = false := beq_eq_false_iff_ne.mpr c4
  have c4b1 : (t180.toList != t182.toList) = true := bne_iff_ne.mpr c4
  obtain rfl := Option.some.inj H
  go_enter Tryz.func3, Tryz.ntmps3
  go_wp2_with (first | ((with_reducible refine gate_callee (f := 4) rfl ?_); refine goesL_ (some 9) rfl rfl Tryz.func4 (by kernel_rfl) rfl #[.string a0] rfl (by (try simp only [List.map_toArray, List.map_cons, List.map_nil]); first | done | rfl | (simp only [List.length_drop, List.length_take]; rfl)) ?_; (with_reducible refine (url_Scheme.calls a0 t180 t181 _ A2.out).mono ?_); rintro e w32 ⟨rfl, hb⟩; refine ⟨_, rfl, ?_⟩; have n0_ := Aside0.mk (below_step (by repeat (first | (with_reducible first | exact HB.out | apply below_alloc | apply pw_below_drewN | apply below_drew1) | exact HB.out)) hb); clear HB; have HB := n0_; clear n0_; (try clear hb); (try clear hb2); (try clear hk); (try clear hi)) | ((with_reducible refine gate_callee (f := 5) rfl ?_); refine goesL_ (some 14) rfl rfl Tryz.func5 (by kernel_rfl) rfl #[.string a0] rfl (by (try simp only [List.map_toArray, List.map_cons, List.map_nil]); first | done | rfl | (simp only [List.length_drop, List.length_take]; rfl)) ?_; (with_reducible refine (stoleref1_Scheme.calls k a0 t182 t183 _ A3.out).mono ?_); rintro e w33 ⟨rfl, hb⟩; refine ⟨_, rfl, ?_⟩; have n0_ := Aside0.mk (below_step (by repeat (first | (with_reducible first | exact HB.out | apply below_alloc | apply pw_below_drewN | apply below_drew1) | exact HB.out)) hb); clear HB; have HB := n0_; clear n0_; (try clear hb); (try clear hb2); (try clear hk); (try clear hi)))
  go_ret
  exact ⟨by first | rfl | (simp [errW_none, errW_some] <;> rfl) | (simp [*, errW_none, errW_some] <;> rfl) | (rw [ne_nil_not]; rfl), by repeat (first | (with_reducible first | exact HB.out | apply below_alloc | apply pw_below_drewN | apply below_drew1) | exact HB.out)⟩

/-- THE ONE PURE STATEMENT of stolelaw9_Urls: yours. -/
def stolelaw9_Urls.Pure : Prop := ∀ (a0 : ByteArray), a0.size ≤ 140737488351232 → ∃ k, stolelaw9_Urls.f k a0 = some true
theorem stolelaw9_Urls.walk (P : stolelaw9_Urls.Pure) (a0 : ByteArray) (w : World) (hT : Tabs w) (w0 : a0.size ≤ 140737488351232) :
  Calls Tryz.prog 3 #[.string a0] w fun e w' => e = .returned (.bool true) ∧ Below w.heap.size w w' := by
 obtain ⟨k, h⟩ := P a0 w0
 refine (stolelaw9_Urls.calls k a0 true w hT h).mono ?_
 rintro e w' ⟨rfl, hd⟩
 exact ⟨rfl, hd⟩

end Go.Proofs.YtfncppekjgbedaaGreatDoor.XU
