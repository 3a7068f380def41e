/- Laid by xprint.py, a program of this session over the kit's print: for each Go function one Lean function of the same answers, and the walk that shows it. -/
import Derived.Test.YtnhhbfanpnpgdaaXF0
import Derived.Test.YtnhhbfanpnpgdaaXF1
import Derived.Test.YtnhhbfanpnpgdaaXF4
namespace Go.Proofs.Ytnhhbfanpnpgdaa.XF
open Go.RowKit Go.Proofs.Ytnhhbfanpnpgdaa.Ext Go.Proofs.YtnhhbfanpnpgdaaW.PrintWords Go.Proofs.YtnhhbfanpnpgdaaW.PrintLast Go.Proofs.YtnhhbfanpnpgdaaW.PrintMore
attribute [local go_sem] max2_int min2_int max_two min_two max_three min_three max_four min_four   -- for this text's walks alone
set_option linter.unusedVariables false
set_option linter.unusedSimpArgs false

/-! ### stoleref1_AttrKind: function 19 -/
def stoleref1_AttrKind.j0 : Nat → ByteArray → ByteArray → Bool → Option (Int)
 | 0, _, _, _ => none
 | k + 1, x0, x3, x4 => if x4 = true then (some 1) else (if x3.toList = ([115, 116, 121, 108, 101] : List UInt8) then (some 3) else (if (x0.size : Int) > 2 then (if 0 ≤ 2 then (if 2 ≤ (x0.size : Int) then (if (x0.extract 0 2).toList = ([111, 110] : List UInt8) then (some 2) else (some 0)) else (none)) else (none)) else (some 0)))
def stoleref1_AttrKind.f (k : Nat) (a0 : ByteArray) : Option (Int) := if a0.toList = ([104, 114, 101, 102] : List UInt8) then (stoleref1_AttrKind.j0 k a0 a0 (a0.toList == ([104, 114, 101, 102] : List UInt8))) else (if a0.toList = ([115, 114, 99] : List UInt8) then (stoleref1_AttrKind.j0 k a0 a0 (a0.toList == ([115, 114, 99] : List UInt8))) else (if a0.toList = ([97, 99, 116, 105, 111, 110] : List UInt8) then (stoleref1_AttrKind.j0 k a0 a0 (a0.toList == ([97, 99, 116, 105, 111, 110] : List UInt8))) else (if a0.toList = ([102, 111, 114, 109, 97, 99, 116, 105, 111, 110] : List UInt8) then (stoleref1_AttrKind.j0 k a0 a0 (a0.toList == ([102, 111, 114, 109, 97, 99, 116, 105, 111, 110] : List UInt8))) else (stoleref1_AttrKind.j0 k a0 a0 (a0.toList == ([99, 105, 116, 101] : List UInt8))))))
theorem stoleref1_AttrKind.mono_l : ∀ k, (∀ y0 y1 y2, LeO (stoleref1_AttrKind.j0 k y0 y1 y2) (stoleref1_AttrKind.j0 (k + 1) y0 y1 y2))
 | 0 => fun _ _ _ r h => by simp [stoleref1_AttrKind.j0] at h
 | k + 1 => by
  have ih0 := stoleref1_AttrKind.mono_l k
  ·intro y0 y1 y2
   unfold stoleref1_AttrKind.j0
   repeat' first
   | (with_reducible exact ih0 _ _ _)
   | (with_reducible exact LeO.refl _)
   | (with_reducible exact LeO.none _)
   | (with_reducible refine LeO.ite ?_ ?_)
   | (with_reducible refine LeO.bind ?_ (fun _ => ?_))
   | exact ih0 _ _ _
   | exact LeO.none _
   | refine LeO.ite ?_ ?_
   | refine LeO.bind ?_ (fun _ => ?_)
theorem stoleref1_AttrKind.mono : ∀ a0 k, LeO (stoleref1_AttrKind.f k a0) (stoleref1_AttrKind.f (k + 1) a0) := by
 intro a0 k
 have ih0 := stoleref1_AttrKind.mono_l k
 unfold stoleref1_AttrKind.f
 repeat' first
   | (with_reducible exact ih0 _ _ _)
   | (with_reducible exact LeO.refl _)
   | (with_reducible exact LeO.none _)
   | (with_reducible refine LeO.ite ?_ ?_)
   | (with_reducible refine LeO.bind ?_ (fun _ => ?_))
   | exact ih0 _ _ _
   | exact LeO.none _
   | refine LeO.ite ?_ ?_
   | refine LeO.bind ?_ (fun _ => ?_)
set_option maxHeartbeats 8000000 in
set_option maxRecDepth 100000 in
theorem stoleref1_AttrKind.calls (k : Nat) (a0 : ByteArray) (r : Int) (w : World) (h : stoleref1_AttrKind.f k a0 = some r) :
  Calls Try.prog 19 #[.string a0] w fun e w' => e = .returned (.int .i64 r) ∧ Drawn0 w w' := by
 have H : (if a0.toList = ([104, 114, 101, 102] : List UInt8) then (stoleref1_AttrKind.j0 k a0 a0 (a0.toList == ([104, 114, 101, 102] : List UInt8))) else (if a0.toList = ([115, 114, 99] : List UInt8) then (stoleref1_AttrKind.j0 k a0 a0 (a0.toList == ([115, 114, 99] : List UInt8))) else (if a0.toList = ([97, 99, 116, 105, 111, 110] : List UInt8) then (stoleref1_AttrKind.j0 k a0 a0 (a0.toList == ([97, 99, 116, 105, 111, 110] : List UInt8))) else (if a0.toList = ([102, 111, 114, 109, 97, 99, 116, 105, 111, 110] : List UInt8) then (stoleref1_AttrKind.j0 k a0 a0 (a0.toList == ([102, 111, 114, 109, 97, 99, 116, 105, 111, 110] : List UInt8))) else (stoleref1_AttrKind.j0 k a0 a0 (a0.toList == ([99, 105, 116, 101] : List UInt8))))))) = some r := h
 clear h
 have HC2 := Aside0.mk H
 clear H
 go_enter Try.func19, Try.ntmps19
 go_upto_if 4 with (fail)
 go_cut [4] (fun v4 wc => ∃ (kq : Nat) (x4_1 : Bool), v4 = .bool x4_1 ∧ Aside0 (stoleref1_AttrKind.j0 kq a0 a0 x4_1 = some r) ∧ Aside0 (kq ≤ k) ∧ Drawn0 w wc)
 case first =>
  have H := HC2.out
  clear HC2
  by_cases c3 : a0.toList = ([104, 114, 101, 102] : List UInt8)
  ·rw [if_pos c3] at H
   have c3b0 : (a0.toList == ([104, 114, 101, 102] : List UInt8)) = true := beq_iff_eq.mpr c3
   have c3b1 : (a0.toList != ([104, 114, 101, 102] : List UInt8)) = false := bne_eq_false_iff_eq.mpr c3
   clear c3
   (first | rw [c3b0] | (simp only [i64_w, i32_w]; rw [c3b0]) | skip)
   have H' := Aside0.mk H
   clear H
   go_wp2
   go_meet
   case rel => exact ⟨_, ((a0.toList == ([104, 114, 101, 102] : List UInt8))), (by first | rfl | (simp; done) | (simp [*]; done)), H', ⟨by first | omega | exact Nat.le_refl _⟩, by repeat (first | exact Drawn0.refl _ | apply Drawn0.step)⟩
  ·rw [if_neg c3] at H
   have c3b0 : (a0.toList == ([104, 114, 101, 102] : List UInt8)) = false := beq_eq_false_iff_ne.mpr c3
   have c3b1 : (a0.toList != ([104, 114, 101, 102] : List UInt8)) = true := bne_iff_ne.mpr c3
   (first | rw [c3b0] | (simp only [i64_w, i32_w]; rw [c3b0]) | skip)
   by_cases c4 : a0.toList = ([115, 114, 99] : List UInt8)
   ·rw [if_pos c4] at H
    have c4b0 : (a0.toList == ([115, 114, 99] : List UInt8)) = true := beq_iff_eq.mpr c4
    have c4b1 : (a0.toList != ([115, 114, 99] : List UInt8)) = false := bne_eq_false_iff_eq.mpr c4
    clear c4
    have H' := Aside0.mk H
    clear H
    go_wp2
    go_meet
    case rel => exact ⟨_, ((a0.toList == ([115, 114, 99] : List UInt8))), (by first | rfl | (simp; done) | (simp [*]; done)), H', ⟨by first | omega | exact Nat.le_refl _⟩, by repeat (first | exact Drawn0.refl _ | apply Drawn0.step)⟩
   ·rw [if_neg c4] at H
    have c4b0 : (a0.toList == ([115, 114, 99] : List UInt8)) = false := beq_eq_false_iff_ne.mpr c4
    have c4b1 : (a0.toList != ([115, 114, 99] : List UInt8)) = true := bne_iff_ne.mpr c4
    by_cases c5 : a0.toList = ([97, 99, 116, 105, 111, 110] : List UInt8)
    ·rw [if_pos c5] at H
     have c5b0 : (a0.toList == ([97, 99, 116, 105, 111, 110] : List UInt8)) = true := beq_iff_eq.mpr c5
     have c5b1 : (a0.toList != ([97, 99, 116, 105, 111, 110] : List UInt8)) = false := bne_eq_false_iff_eq.mpr c5
     clear c5
     have H' := Aside0.mk H
     clear H
     go_wp2
     go_meet
     case rel => exact ⟨_, ((a0.toList == ([97, 99, 116, 105, 111, 110] : List UInt8))), (by first | rfl | (simp; done) | (simp [*]; done)), H', ⟨by first | omega | exact Nat.le_refl _⟩, by repeat (first | exact Drawn0.refl _ | apply Drawn0.step)⟩
    ·rw [if_neg c5] at H
     have c5b0 : (a0.toList == ([97, 99, 116, 105, 111, 110] : List UInt8)) = false := beq_eq_false_iff_ne.mpr c5
     have c5b1 : (a0.toList != ([97, 99, 116, 105, 111, 110] : List UInt8)) = true := bne_iff_ne.mpr c5
     by_cases c6 : a0.toList = ([102, 111, 114, 109, 97, 99, 116, 105, 111, 110] : List UInt8)
     ·rw [if_pos c6] at H
      have c6b0 : (a0.toList == ([102, 111, 114, 109, 97, 99, 116, 105, 111, 110] : List UInt8)) = true := beq_iff_eq.mpr c6
      have c6b1 : (a0.toList != ([102, 111, 114, 109, 97, 99, 116, 105, 111, 110] : List UInt8)) = false := bne_eq_false_iff_eq.mpr c6
      clear c6
      have H' := Aside0.mk H
      clear H
      go_wp2
      go_meet
      case rel => exact ⟨_, ((a0.toList == ([102, 111, 114, 109, 97, 99, 116, 105, 111, 110] : List UInt8))), (by first | rfl | (simp; done) | (simp [*]; done)), H', ⟨by first | omega | exact Nat.le_refl _⟩, by repeat (first | exact Drawn0.refl _ | apply Drawn0.step)⟩
     ·rw [if_neg c6] at H
      have c6b0 : (a0.toList == ([102, 111, 114, 109, 97, 99, 116, 105, 111, 110] : List UInt8)) = false := beq_eq_false_iff_ne.mpr c6
      have c6b1 : (a0.toList != ([102, 111, 114, 109, 97, 99, 116, 105, 111, 110] : List UInt8)) = true := bne_iff_ne.mpr c6
      have H' := Aside0.mk H
      clear H
      go_wp2
      go_meet
      case rel => exact ⟨_, ((a0.toList == ([99, 105, 116, 101] : List UInt8))), (by first | rfl | (simp; done) | (simp [*]; done)), H', ⟨by first | omega | exact Nat.le_refl _⟩, by repeat (first | exact Drawn0.refl _ | apply Drawn0.step)⟩
 case rest =>
  clear HC2
  try clear c1
  try clear p2
  try clear c3
  try clear c3b0
  try clear c3b1
  try clear c4
  try clear c4b0
  try clear c4b1
  try clear c5
  try clear c5b0
  try clear c5b1
  try clear c6
  try clear c6b0
  try clear c6b1
  obtain ⟨kq, x4_1, rfl, HA, HJ1, ⟨mc1, rfl⟩⟩ := hcut
  cases kq with
  | zero => exact absurd HA.out (by simp [stoleref1_AttrKind.j0])
  | succ kj1 =>
   have H := HA.out
   clear HA
   simp only [stoleref1_AttrKind.j0] at H
   by_cases c7 : x4_1 = true
   ·subst c7
    have H1 : (some 1) = some r := by rw [if_pos rfl] at H; exact H
    clear H
    have H := H1
    clear H1
    obtain rfl := Option.some.inj H
    go_wp2
    go_ret
    exact ⟨by first | rfl | (simp; done) | (simp [*]; done), by repeat (first | exact Drawn0.refl _ | apply Drawn0.step)⟩
   ·replace c7 := Bool.eq_false_iff.mpr c7
    subst c7
    have H1 : (if a0.toList = ([115, 116, 121, 108, 101] : List UInt8) then (some 3) else (if (a0.size : Int) > 2 then (if 0 ≤ 2 then (if 2 ≤ (a0.size : Int) then (if (a0.extract 0 2).toList = ([111, 110] : List UInt8) then (some 2) else (some 0)) else (none)) else (none)) else (some 0))) = some r := by rw [if_neg (show ¬ (false = true) by decide)] at H; exact H
    clear H
    have H := H1
    clear H1
    by_cases c8 : a0.toList = ([115, 116, 121, 108, 101] : List UInt8)
    ·rw [if_pos c8] at H
     have c8b0 : (a0.toList == ([115, 116, 121, 108, 101] : List UInt8)) = true := beq_iff_eq.mpr c8
     have c8b1 : (a0.toList != ([115, 116, 121, 108, 101] : List UInt8)) = false := bne_eq_false_iff_eq.mpr c8
     clear c8
     obtain rfl := Option.some.inj H
     go_wp2
     go_ret
     exact ⟨by first | rfl | (simp; done) | (simp [*]; done), by repeat (first | exact Drawn0.refl _ | apply Drawn0.step)⟩
    ·rw [if_neg c8] at H
     have c8b0 : (a0.toList == ([115, 116, 121, 108, 101] : List UInt8)) = false := beq_eq_false_iff_ne.mpr c8
     have c8b1 : (a0.toList != ([115, 116, 121, 108, 101] : List UInt8)) = true := bne_iff_ne.mpr c8
     by_cases c9 : (a0.size : Int) > 2
     ·rw [if_pos c9] at H
      have c9b0 : decide (2 < (a0.size : Int)) = true := decide_eq_true c9
      have c9b1 : decide (2 < a0.size) = true := decide_eq_true (by omega)
      clear c9
      by_cases c10 : 0 ≤ 2
      ·rw [if_pos c10] at H
       have c10b0 := eq_true c10
       have c10b1 : decide (0 ≤ 2) = true := decide_eq_true c10
       clear c10
       by_cases c11 : 2 ≤ (a0.size : Int)
       ·rw [if_pos c11] at H
        have c11b0 := eq_true c11
        have c11b1 : decide (2 ≤ (a0.size : Int)) = true := decide_eq_true c11
        clear c11
        by_cases c12 : (a0.extract 0 2).toList = ([111, 110] : List UInt8)
        ·rw [if_pos c12] at H
         have c12b0 : ((a0.extract 0 2).toList == ([111, 110] : List UInt8)) = true := beq_iff_eq.mpr c12
         have c12b1 : ((a0.extract 0 2).toList != ([111, 110] : List UInt8)) = false := bne_eq_false_iff_eq.mpr c12
         clear c12
         obtain rfl := Option.some.inj H
         go_wp2
         go_ret
         exact ⟨by first | rfl | (simp; done) | (simp [*]; done), by repeat (first | exact Drawn0.refl _ | apply Drawn0.step)⟩
        ·rw [if_neg c12] at H
         have c12b0 : ((a0.extract 0 2).toList == ([111, 110] : List UInt8)) = false := beq_eq_false_iff_ne.mpr c12
         have c12b1 : ((a0.extract 0 2).toList != ([111, 110] : List UInt8)) = true := bne_iff_ne.mpr c12
         obtain rfl := Option.some.inj H
         go_wp2
         go_ret
         exact ⟨by first | rfl | (simp; done) | (simp [*]; done), by repeat (first | exact Drawn0.refl _ | apply Drawn0.step)⟩
       ·rw [if_neg c11] at H
        exact absurd H (by simp)
      ·rw [if_neg c10] at H
       exact absurd H (by simp)
     ·rw [if_neg c9] at H
      have c9b0 : decide (2 < (a0.size : Int)) = false := decide_eq_false c9
      have c9b1 : decide (2 < a0.size) = false := decide_eq_false (by omega)
      clear c9
      obtain rfl := Option.some.inj H
      go_wp2
      go_ret
      exact ⟨by first | rfl | (simp; done) | (simp [*]; done), by repeat (first | exact Drawn0.refl _ | apply Drawn0.step)⟩

/-! ### stolelaw6_awake: function 20 -/
def stolelaw6_awake.f (k : Nat)  : Option (Bool) := (elem_Kind.f k (⟨#[98, 114]⟩ : ByteArray)).bind fun t133 => (if t133 = 1 then ((elem_Kind.f k (⟨#[116, 105, 116, 108, 101]⟩ : ByteArray)).bind fun t134 => (if t134 = 2 then ((elem_Kind.f k (⟨#[115, 99, 114, 105, 112, 116]⟩ : ByteArray)).bind fun t135 => (if t135 = 3 then ((elem_Kind.f k (⟨#[115, 116, 121, 108, 101]⟩ : ByteArray)).bind fun t136 => (if t136 = 4 then ((elem_Kind.f k (⟨#[66, 82]⟩ : ByteArray)).bind fun t137 => (if t137 = 0 then ((elem_Attr.f k (⟨#[104, 114, 101, 102]⟩ : ByteArray)).bind fun t138 => (if t138 = 1 then ((elem_Attr.f k (⟨#[111, 110, 120]⟩ : ByteArray)).bind fun t139 => (if t139 = 2 then ((elem_Attr.f k (⟨#[111, 110]⟩ : ByteArray)).bind fun t140 => (if t140 = 0 then ((elem_Attr.f k (⟨#[115, 116, 121, 108, 101]⟩ : ByteArray)).bind fun t141 => (if t141 = 3 then ((stolelaw0_Num.f 0).bind fun t142 => (some (t142 == 0))) else (some false))) else (some false))) else (some false))) else (some false))) else (some false))) else (some false))) else (some false))) else (some false))) else (some false))
theorem stolelaw6_awake.mono : ∀ k, LeO (stolelaw6_awake.f k ) (stolelaw6_awake.f (k + 1) ) := by
 intro  k
 unfold stolelaw6_awake.f
 repeat' first
   | (with_reducible exact elem_Attr.mono _ _)
   | (with_reducible exact elem_Kind.mono _ _)
   | (with_reducible exact LeO.refl _)
   | (with_reducible exact LeO.none _)
   | (with_reducible refine LeO.ite ?_ ?_)
   | (with_reducible refine LeO.bind ?_ (fun _ => ?_))
   | exact elem_Attr.mono _ _
   | exact elem_Kind.mono _ _
   | exact LeO.none _
   | refine LeO.ite ?_ ?_
   | refine LeO.bind ?_ (fun _ => ?_)
set_option maxHeartbeats 8000000 in
set_option maxRecDepth 100000 in
theorem stolelaw6_awake.calls (k : Nat)  (r : Bool) (w : World) (h : stolelaw6_awake.f k  = some r) :
  Calls Try.prog 20 #[] w fun e w' => e = .returned (.bool r) ∧ Drawn0 w w' := by
 have H : ((elem_Kind.f k (⟨#[98, 114]⟩ : ByteArray)).bind fun t133 => (if t133 = 1 then ((elem_Kind.f k (⟨#[116, 105, 116, 108, 101]⟩ : ByteArray)).bind fun t134 => (if t134 = 2 then ((elem_Kind.f k (⟨#[115, 99, 114, 105, 112, 116]⟩ : ByteArray)).bind fun t135 => (if t135 = 3 then ((elem_Kind.f k (⟨#[115, 116, 121, 108, 101]⟩ : ByteArray)).bind fun t136 => (if t136 = 4 then ((elem_Kind.f k (⟨#[66, 82]⟩ : ByteArray)).bind fun t137 => (if t137 = 0 then ((elem_Attr.f k (⟨#[104, 114, 101, 102]⟩ : ByteArray)).bind fun t138 => (if t138 = 1 then ((elem_Attr.f k (⟨#[111, 110, 120]⟩ : ByteArray)).bind fun t139 => (if t139 = 2 then ((elem_Attr.f k (⟨#[111, 110]⟩ : ByteArray)).bind fun t140 => (if t140 = 0 then ((elem_Attr.f k (⟨#[115, 116, 121, 108, 101]⟩ : ByteArray)).bind fun t141 => (if t141 = 3 then ((stolelaw0_Num.f 0).bind fun t142 => (some (t142 == 0))) else (some false))) else (some false))) else (some false))) else (some false))) else (some false))) else (some false))) else (some false))) else (some false))) else (some false))) = some r := h
 clear h
 replace H := Option.bind_eq_some_iff.mp H
 obtain ⟨t133, A10, H⟩ := H
 replace H : (if t133 = 1 then ((elem_Kind.f k (⟨#[116, 105, 116, 108, 101]⟩ : ByteArray)).bind fun t134 => (if t134 = 2 then ((elem_Kind.f k (⟨#[115, 99, 114, 105, 112, 116]⟩ : ByteArray)).bind fun t135 => (if t135 = 3 then ((elem_Kind.f k (⟨#[115, 116, 121, 108, 101]⟩ : ByteArray)).bind fun t136 => (if t136 = 4 then ((elem_Kind.f k (⟨#[66, 82]⟩ : ByteArray)).bind fun t137 => (if t137 = 0 then ((elem_Attr.f k (⟨#[104, 114, 101, 102]⟩ : ByteArray)).bind fun t138 => (if t138 = 1 then ((elem_Attr.f k (⟨#[111, 110, 120]⟩ : ByteArray)).bind fun t139 => (if t139 = 2 then ((elem_Attr.f k (⟨#[111, 110]⟩ : ByteArray)).bind fun t140 => (if t140 = 0 then ((elem_Attr.f k (⟨#[115, 116, 121, 108, 101]⟩ : ByteArray)).bind fun t141 => (if t141 = 3 then ((stolelaw0_Num.f 0).bind fun t142 => (some (t142 == 0))) else (some false))) else (some false))) else (some false))) else (some false))) else (some false))) else (some false))) else (some false))) else (some false))) else (some false)) = some r := H
 have A1 := Aside0.mk A10
 clear A10
 by_cases c2 : t133 = 1
 ·rw [if_pos c2] at H
  have c2b0 : (t133 == 1) = true := beq_iff_eq.mpr c2
  have c2b1 : (t133 != 1) = false := bne_eq_false_iff_eq.mpr c2
  clear c2
  replace H := Option.bind_eq_some_iff.mp H
  obtain ⟨t134, A30, H⟩ := H
  replace H : (if t134 = 2 then ((elem_Kind.f k (⟨#[115, 99, 114, 105, 112, 116]⟩ : ByteArray)).bind fun t135 => (if t135 = 3 then ((elem_Kind.f k (⟨#[115, 116, 121, 108, 101]⟩ : ByteArray)).bind fun t136 => (if t136 = 4 then ((elem_Kind.f k (⟨#[66, 82]⟩ : ByteArray)).bind fun t137 => (if t137 = 0 then ((elem_Attr.f k (⟨#[104, 114, 101, 102]⟩ : ByteArray)).bind fun t138 => (if t138 = 1 then ((elem_Attr.f k (⟨#[111, 110, 120]⟩ : ByteArray)).bind fun t139 => (if t139 = 2 then ((elem_Attr.f k (⟨#[111, 110]⟩ : ByteArray)).bind fun t140 => (if t140 = 0 then ((elem_Attr.f k (⟨#[115, 116, 121, 108, 101]⟩ : ByteArray)).bind fun t141 => (if t141 = 3 then ((stolelaw0_Num.f 0).bind fun t142 => (some (t142 == 0))) else (some false))) else (some false))) else (some false))) else (some false))) else (some false))) else (some false))) else (some false))) else (some false)) = some r := H
  have A3 := Aside0.mk A30
  clear A30
  by_cases c4 : t134 = 2
  ·rw [if_pos c4] at H
   have c4b0 : (t134 == 2) = true := beq_iff_eq.mpr c4
   have c4b1 : (t134 != 2) = false := bne_eq_false_iff_eq.mpr c4
   clear c4
   replace H := Option.bind_eq_some_iff.mp H
   obtain ⟨t135, A50, H⟩ := H
   replace H : (if t135 = 3 then ((elem_Kind.f k (⟨#[115, 116, 121, 108, 101]⟩ : ByteArray)).bind fun t136 => (if t136 = 4 then ((elem_Kind.f k (⟨#[66, 82]⟩ : ByteArray)).bind fun t137 => (if t137 = 0 then ((elem_Attr.f k (⟨#[104, 114, 101, 102]⟩ : ByteArray)).bind fun t138 => (if t138 = 1 then ((elem_Attr.f k (⟨#[111, 110, 120]⟩ : ByteArray)).bind fun t139 => (if t139 = 2 then ((elem_Attr.f k (⟨#[111, 110]⟩ : ByteArray)).bind fun t140 => (if t140 = 0 then ((elem_Attr.f k (⟨#[115, 116, 121, 108, 101]⟩ : ByteArray)).bind fun t141 => (if t141 = 3 then ((stolelaw0_Num.f 0).bind fun t142 => (some (t142 == 0))) else (some false))) else (some false))) else (some false))) else (some false))) else (some false))) else (some false))) else (some false)) = some r := H
   have A5 := Aside0.mk A50
   clear A50
   by_cases c6 : t135 = 3
   ·rw [if_pos c6] at H
    have c6b0 : (t135 == 3) = true := beq_iff_eq.mpr c6
    have c6b1 : (t135 != 3) = false := bne_eq_false_iff_eq.mpr c6
    clear c6
    replace H := Option.bind_eq_some_iff.mp H
    obtain ⟨t136, A70, H⟩ := H
    replace H : (if t136 = 4 then ((elem_Kind.f k (⟨#[66, 82]⟩ : ByteArray)).bind fun t137 => (if t137 = 0 then ((elem_Attr.f k (⟨#[104, 114, 101, 102]⟩ : ByteArray)).bind fun t138 => (if t138 = 1 then ((elem_Attr.f k (⟨#[111, 110, 120]⟩ : ByteArray)).bind fun t139 => (if t139 = 2 then ((elem_Attr.f k (⟨#[111, 110]⟩ : ByteArray)).bind fun t140 => (if t140 = 0 then ((elem_Attr.f k (⟨#[115, 116, 121, 108, 101]⟩ : ByteArray)).bind fun t141 => (if t141 = 3 then ((stolelaw0_Num.f 0).bind fun t142 => (some (t142 == 0))) else (some false))) else (some false))) else (some false))) else (some false))) else (some false))) else (some false)) = some r := H
    have A7 := Aside0.mk A70
    clear A70
    by_cases c8 : t136 = 4
    ·rw [if_pos c8] at H
     have c8b0 : (t136 == 4) = true := beq_iff_eq.mpr c8
     have c8b1 : (t136 != 4) = false := bne_eq_false_iff_eq.mpr c8
     clear c8
     replace H := Option.bind_eq_some_iff.mp H
     obtain ⟨t137, A90, H⟩ := H
     replace H : (if t137 = 0 then ((elem_Attr.f k (⟨#[104, 114, 101, 102]⟩ : ByteArray)).bind fun t138 => (if t138 = 1 then ((elem_Attr.f k (⟨#[111, 110, 120]⟩ : ByteArray)).bind fun t139 => (if t139 = 2 then ((elem_Attr.f k (⟨#[111, 110]⟩ : ByteArray)).bind fun t140 => (if t140 = 0 then ((elem_Attr.f k (⟨#[115, 116, 121, 108, 101]⟩ : ByteArray)).bind fun t141 => (if t141 = 3 then ((stolelaw0_Num.f 0).bind fun t142 => (some (t142 == 0))) else (some false))) else (some false))) else (some false))) else (some false))) else (some false)) = some r := H
     have A9 := Aside0.mk A90
     clear A90
     by_cases c10 : t137 = 0
     ·rw [if_pos c10] at H
      have c10b0 : (t137 == 0) = true := beq_iff_eq.mpr c10
      have c10b1 : (t137 != 0) = false := bne_eq_false_iff_eq.mpr c10
      clear c10
      replace H := Option.bind_eq_some_iff.mp H
      obtain ⟨t138, A110, H⟩ := H
      replace H : (if t138 = 1 then ((elem_Attr.f k (⟨#[111, 110, 120]⟩ : ByteArray)).bind fun t139 => (if t139 = 2 then ((elem_Attr.f k (⟨#[111, 110]⟩ : ByteArray)).bind fun t140 => (if t140 = 0 then ((elem_Attr.f k (⟨#[115, 116, 121, 108, 101]⟩ : ByteArray)).bind fun t141 => (if t141 = 3 then ((stolelaw0_Num.f 0).bind fun t142 => (some (t142 == 0))) else (some false))) else (some false))) else (some false))) else (some false)) = some r := H
      have A11 := Aside0.mk A110
      clear A110
      by_cases c12 : t138 = 1
      ·rw [if_pos c12] at H
       have c12b0 : (t138 == 1) = true := beq_iff_eq.mpr c12
       have c12b1 : (t138 != 1) = false := bne_eq_false_iff_eq.mpr c12
       clear c12
       replace H := Option.bind_eq_some_iff.mp H
       obtain ⟨t139, A130, H⟩ := H
       replace H : (if t139 = 2 then ((elem_Attr.f k (⟨#[111, 110]⟩ : ByteArray)).bind fun t140 => (if t140 = 0 then ((elem_Attr.f k (⟨#[115, 116, 121, 108, 101]⟩ : ByteArray)).bind fun t141 => (if t141 = 3 then ((stolelaw0_Num.f 0).bind fun t142 => (some (t142 == 0))) else (some false))) else (some false))) else (some false)) = some r := H
       have A13 := Aside0.mk A130
       clear A130
       by_cases c14 : t139 = 2
       ·rw [if_pos c14] at H
        have c14b0 : (t139 == 2) = true := beq_iff_eq.mpr c14
        have c14b1 : (t139 != 2) = false := bne_eq_false_iff_eq.mpr c14
        clear c14
        replace H := Option.bind_eq_some_iff.mp H
        obtain ⟨t140, A150, H⟩ := H
        replace H : (if t140 = 0 then ((elem_Attr.f k (⟨#[115, 116, 121, 108, 101]⟩ : ByteArray)).bind fun t141 => (if t141 = 3 then ((stolelaw0_Num.f 0).bind fun t142 => (some (t142 == 0))) else (some false))) else (some false)) = some r := H
        have A15 := Aside0.mk A150
        clear A150
        by_cases c16 : t140 = 0
        ·rw [if_pos c16] at H
         have c16b0 : (t140 == 0) = true := beq_iff_eq.mpr c16
         have c16b1 : (t140 != 0) = false := bne_eq_false_iff_eq.mpr c16
         clear c16
         replace H := Option.bind_eq_some_iff.mp H
         obtain ⟨t141, A170, H⟩ := H
         replace H : (if t141 = 3 then ((stolelaw0_Num.f 0).bind fun t142 => (some (t142 == 0))) else (some false)) = some r := H
         have A17 := Aside0.mk A170
         clear A170
         by_cases c18 : t141 = 3
         ·rw [if_pos c18] at H
          have c18b0 : (t141 == 3) = true := beq_iff_eq.mpr c18
          have c18b1 : (t141 != 3) = false := bne_eq_false_iff_eq.mpr c18
          clear c18
          replace H := Option.bind_eq_some_iff.mp H
          obtain ⟨t142, A190, H⟩ := H
          replace H : (some (t142 == 0)) = some r := H
          have A19 := Aside0.mk A190
          clear A190
          obtain rfl := Option.some.inj H
          go_enter Try.func20, Try.ntmps20
          go_wp2_with (first | ((with_reducible refine gate_callee (f := 16) rfl ?_); refine goesL_ (some 1) rfl rfl Try.func16 (by kernel_rfl) rfl #[.string (⟨#[98, 114]⟩ : ByteArray)] rfl (by (try simp only [List.map_toArray, List.map_cons, List.map_nil]); first | done | rfl | (simp only [List.length_drop, List.length_take]; rfl)) ?_; (with_reducible refine (elem_Kind.calls k (⟨#[98, 114]⟩ : ByteArray) t133 _ A1.out).mono ?_); rintro e w' ⟨rfl, ⟨nd, rfl⟩⟩; refine ⟨_, rfl, ?_⟩) | (go_at_call 16; (with_reducible refine (elem_Kind.calls k (⟨#[116, 105, 116, 108, 101]⟩ : ByteArray) t134 _ A3.out).mono ?_); rintro e w' ⟨rfl, ⟨nd, rfl⟩⟩) | (go_at_call 16; (with_reducible refine (elem_Kind.calls k (⟨#[115, 99, 114, 105, 112, 116]⟩ : ByteArray) t135 _ A5.out).mono ?_); rintro e w' ⟨rfl, ⟨nd, rfl⟩⟩) | (go_at_call 16; (with_reducible refine (elem_Kind.calls k (⟨#[115, 116, 121, 108, 101]⟩ : ByteArray) t136 _ A7.out).mono ?_); rintro e w' ⟨rfl, ⟨nd, rfl⟩⟩) | (go_at_call 16; (with_reducible refine (elem_Kind.calls k (⟨#[66, 82]⟩ : ByteArray) t137 _ A9.out).mono ?_); rintro e w' ⟨rfl, ⟨nd, rfl⟩⟩) | (go_at_call 18; (with_reducible refine (elem_Attr.calls k (⟨#[104, 114, 101, 102]⟩ : ByteArray) t138 _ A11.out).mono ?_); rintro e w' ⟨rfl, ⟨nd, rfl⟩⟩) | (go_at_call 18; (with_reducible refine (elem_Attr.calls k (⟨#[111, 110, 120]⟩ : ByteArray) t139 _ A13.out).mono ?_); rintro e w' ⟨rfl, ⟨nd, rfl⟩⟩) | (go_at_call 18; (with_reducible refine (elem_Attr.calls k (⟨#[111, 110]⟩ : ByteArray) t140 _ A15.out).mono ?_); rintro e w' ⟨rfl, ⟨nd, rfl⟩⟩) | (go_at_call 18; (with_reducible refine (elem_Attr.calls k (⟨#[115, 116, 121, 108, 101]⟩ : ByteArray) t141 _ A17.out).mono ?_); rintro e w' ⟨rfl, ⟨nd, rfl⟩⟩) | (go_at_call 15; (with_reducible refine (stolelaw0_Num.calls 0 t142 _ A19.out).mono ?_); rintro e w' ⟨rfl, ⟨nd, rfl⟩⟩))
          go_ret
          exact ⟨by first | rfl | (simp; done) | (simp [*]; done), by repeat (first | exact Drawn0.refl _ | apply Drawn0.step)⟩
         ·rw [if_neg c18] at H
          have c18b0 : (t141 == 3) = false := beq_eq_false_iff_ne.mpr c18
          have c18b1 : (t141 != 3) = true := bne_iff_ne.mpr c18
          obtain rfl := Option.some.inj H
          go_enter Try.func20, Try.ntmps20
          go_wp2_with (first | ((with_reducible refine gate_callee (f := 16) rfl ?_); refine goesL_ (some 1) rfl rfl Try.func16 (by kernel_rfl) rfl #[.string (⟨#[98, 114]⟩ : ByteArray)] rfl (by (try simp only [List.map_toArray, List.map_cons, List.map_nil]); first | done | rfl | (simp only [List.length_drop, List.length_take]; rfl)) ?_; (with_reducible refine (elem_Kind.calls k (⟨#[98, 114]⟩ : ByteArray) t133 _ A1.out).mono ?_); rintro e w' ⟨rfl, ⟨nd, rfl⟩⟩; refine ⟨_, rfl, ?_⟩) | (go_at_call 16; (with_reducible refine (elem_Kind.calls k (⟨#[116, 105, 116, 108, 101]⟩ : ByteArray) t134 _ A3.out).mono ?_); rintro e w' ⟨rfl, ⟨nd, rfl⟩⟩) | (go_at_call 16; (with_reducible refine (elem_Kind.calls k (⟨#[115, 99, 114, 105, 112, 116]⟩ : ByteArray) t135 _ A5.out).mono ?_); rintro e w' ⟨rfl, ⟨nd, rfl⟩⟩) | (go_at_call 16; (with_reducible refine (elem_Kind.calls k (⟨#[115, 116, 121, 108, 101]⟩ : ByteArray) t136 _ A7.out).mono ?_); rintro e w' ⟨rfl, ⟨nd, rfl⟩⟩) | (go_at_call 16; (with_reducible refine (elem_Kind.calls k (⟨#[66, 82]⟩ : ByteArray) t137 _ A9.out).mono ?_); rintro e w' ⟨rfl, ⟨nd, rfl⟩⟩) | (go_at_call 18; (with_reducible refine (elem_Attr.calls k (⟨#[104, 114, 101, 102]⟩ : ByteArray) t138 _ A11.out).mono ?_); rintro e w' ⟨rfl, ⟨nd, rfl⟩⟩) | (go_at_call 18; (with_reducible refine (elem_Attr.calls k (⟨#[111, 110, 120]⟩ : ByteArray) t139 _ A13.out).mono ?_); rintro e w' ⟨rfl, ⟨nd, rfl⟩⟩) | (go_at_call 18; (with_reducible refine (elem_Attr.calls k (⟨#[111, 110]⟩ : ByteArray) t140 _ A15.out).mono ?_); rintro e w' ⟨rfl, ⟨nd, rfl⟩⟩) | (go_at_call 18; (with_reducible refine (elem_Attr.calls k (⟨#[115, 116, 121, 108, 101]⟩ : ByteArray) t141 _ A17.out).mono ?_); rintro e w' ⟨rfl, ⟨nd, rfl⟩⟩))
          go_ret
          exact ⟨by first | rfl | (simp; done) | (simp [*]; done), by repeat (first | exact Drawn0.refl _ | apply Drawn0.step)⟩
        ·rw [if_neg c16] at H
         have c16b0 : (t140 == 0) = false := beq_eq_false_iff_ne.mpr c16
         have c16b1 : (t140 != 0) = true := bne_iff_ne.mpr c16
         obtain rfl := Option.some.inj H
         go_enter Try.func20, Try.ntmps20
         go_wp2_with (first | ((with_reducible refine gate_callee (f := 16) rfl ?_); refine goesL_ (some 1) rfl rfl Try.func16 (by kernel_rfl) rfl #[.string (⟨#[98, 114]⟩ : ByteArray)] rfl (by (try simp only [List.map_toArray, List.map_cons, List.map_nil]); first | done | rfl | (simp only [List.length_drop, List.length_take]; rfl)) ?_; (with_reducible refine (elem_Kind.calls k (⟨#[98, 114]⟩ : ByteArray) t133 _ A1.out).mono ?_); rintro e w' ⟨rfl, ⟨nd, rfl⟩⟩; refine ⟨_, rfl, ?_⟩) | (go_at_call 16; (with_reducible refine (elem_Kind.calls k (⟨#[116, 105, 116, 108, 101]⟩ : ByteArray) t134 _ A3.out).mono ?_); rintro e w' ⟨rfl, ⟨nd, rfl⟩⟩) | (go_at_call 16; (with_reducible refine (elem_Kind.calls k (⟨#[115, 99, 114, 105, 112, 116]⟩ : ByteArray) t135 _ A5.out).mono ?_); rintro e w' ⟨rfl, ⟨nd, rfl⟩⟩) | (go_at_call 16; (with_reducible refine (elem_Kind.calls k (⟨#[115, 116, 121, 108, 101]⟩ : ByteArray) t136 _ A7.out).mono ?_); rintro e w' ⟨rfl, ⟨nd, rfl⟩⟩) | (go_at_call 16; (with_reducible refine (elem_Kind.calls k (⟨#[66, 82]⟩ : ByteArray) t137 _ A9.out).mono ?_); rintro e w' ⟨rfl, ⟨nd, rfl⟩⟩) | (go_at_call 18; (with_reducible refine (elem_Attr.calls k (⟨#[104, 114, 101, 102]⟩ : ByteArray) t138 _ A11.out).mono ?_); rintro e w' ⟨rfl, ⟨nd, rfl⟩⟩) | (go_at_call 18; (with_reducible refine (elem_Attr.calls k (⟨#[111, 110, 120]⟩ : ByteArray) t139 _ A13.out).mono ?_); rintro e w' ⟨rfl, ⟨nd, rfl⟩⟩) | (go_at_call 18; (with_reducible refine (elem_Attr.calls k (⟨#[111, 110]⟩ : ByteArray) t140 _ A15.out).mono ?_); rintro e w' ⟨rfl, ⟨nd, rfl⟩⟩))
         go_ret
         exact ⟨by first | rfl | (simp; done) | (simp [*]; done), by repeat (first | exact Drawn0.refl _ | apply Drawn0.step)⟩
       ·rw [if_neg c14] at H
        have c14b0 : (t139 == 2) = false := beq_eq_false_iff_ne.mpr c14
        have c14b1 : (t139 != 2) = true := bne_iff_ne.mpr c14
        obtain rfl := Option.some.inj H
        go_enter Try.func20, Try.ntmps20
        go_wp2_with (first | ((with_reducible refine gate_callee (f := 16) rfl ?_); refine goesL_ (some 1) rfl rfl Try.func16 (by kernel_rfl) rfl #[.string (⟨#[98, 114]⟩ : ByteArray)] rfl (by (try simp only [List.map_toArray, List.map_cons, List.map_nil]); first | done | rfl | (simp only [List.length_drop, List.length_take]; rfl)) ?_; (with_reducible refine (elem_Kind.calls k (⟨#[98, 114]⟩ : ByteArray) t133 _ A1.out).mono ?_); rintro e w' ⟨rfl, ⟨nd, rfl⟩⟩; refine ⟨_, rfl, ?_⟩) | (go_at_call 16; (with_reducible refine (elem_Kind.calls k (⟨#[116, 105, 116, 108, 101]⟩ : ByteArray) t134 _ A3.out).mono ?_); rintro e w' ⟨rfl, ⟨nd, rfl⟩⟩) | (go_at_call 16; (with_reducible refine (elem_Kind.calls k (⟨#[115, 99, 114, 105, 112, 116]⟩ : ByteArray) t135 _ A5.out).mono ?_); rintro e w' ⟨rfl, ⟨nd, rfl⟩⟩) | (go_at_call 16; (with_reducible refine (elem_Kind.calls k (⟨#[115, 116, 121, 108, 101]⟩ : ByteArray) t136 _ A7.out).mono ?_); rintro e w' ⟨rfl, ⟨nd, rfl⟩⟩) | (go_at_call 16; (with_reducible refine (elem_Kind.calls k (⟨#[66, 82]⟩ : ByteArray) t137 _ A9.out).mono ?_); rintro e w' ⟨rfl, ⟨nd, rfl⟩⟩) | (go_at_call 18; (with_reducible refine (elem_Attr.calls k (⟨#[104, 114, 101, 102]⟩ : ByteArray) t138 _ A11.out).mono ?_); rintro e w' ⟨rfl, ⟨nd, rfl⟩⟩) | (go_at_call 18; (with_reducible refine (elem_Attr.calls k (⟨#[111, 110, 120]⟩ : ByteArray) t139 _ A13.out).mono ?_); rintro e w' ⟨rfl, ⟨nd, rfl⟩⟩))
        go_ret
        exact ⟨by first | rfl | (simp; done) | (simp [*]; done), by repeat (first | exact Drawn0.refl _ | apply Drawn0.step)⟩
      ·rw [if_neg c12] at H
       have c12b0 : (t138 == 1) = false := beq_eq_false_iff_ne.mpr c12
       have c12b1 : (t138 != 1) = true := bne_iff_ne.mpr c12
       obtain rfl := Option.some.inj H
       go_enter Try.func20, Try.ntmps20
       go_wp2_with (first | ((with_reducible refine gate_callee (f := 16) rfl ?_); refine goesL_ (some 1) rfl rfl Try.func16 (by kernel_rfl) rfl #[.string (⟨#[98, 114]⟩ : ByteArray)] rfl (by (try simp only [List.map_toArray, List.map_cons, List.map_nil]); first | done | rfl | (simp only [List.length_drop, List.length_take]; rfl)) ?_; (with_reducible refine (elem_Kind.calls k (⟨#[98, 114]⟩ : ByteArray) t133 _ A1.out).mono ?_); rintro e w' ⟨rfl, ⟨nd, rfl⟩⟩; refine ⟨_, rfl, ?_⟩) | (go_at_call 16; (with_reducible refine (elem_Kind.calls k (⟨#[116, 105, 116, 108, 101]⟩ : ByteArray) t134 _ A3.out).mono ?_); rintro e w' ⟨rfl, ⟨nd, rfl⟩⟩) | (go_at_call 16; (with_reducible refine (elem_Kind.calls k (⟨#[115, 99, 114, 105, 112, 116]⟩ : ByteArray) t135 _ A5.out).mono ?_); rintro e w' ⟨rfl, ⟨nd, rfl⟩⟩) | (go_at_call 16; (with_reducible refine (elem_Kind.calls k (⟨#[115, 116, 121, 108, 101]⟩ : ByteArray) t136 _ A7.out).mono ?_); rintro e w' ⟨rfl, ⟨nd, rfl⟩⟩) | (go_at_call 16; (with_reducible refine (elem_Kind.calls k (⟨#[66, 82]⟩ : ByteArray) t137 _ A9.out).mono ?_); rintro e w' ⟨rfl, ⟨nd, rfl⟩⟩) | (go_at_call 18; (with_reducible refine (elem_Attr.calls k (⟨#[104, 114, 101, 102]⟩ : ByteArray) t138 _ A11.out).mono ?_); rintro e w' ⟨rfl, ⟨nd, rfl⟩⟩))
       go_ret
       exact ⟨by first | rfl | (simp; done) | (simp [*]; done), by repeat (first | exact Drawn0.refl _ | apply Drawn0.step)⟩
     ·rw [if_neg c10] at H
      have c10b0 : (t137 == 0) = false := beq_eq_false_iff_ne.mpr c10
      have c10b1 : (t137 != 0) = true := bne_iff_ne.mpr c10
      obtain rfl := Option.some.inj H
      go_enter Try.func20, Try.ntmps20
      go_wp2_with (first | ((with_reducible refine gate_callee (f := 16) rfl ?_); refine goesL_ (some 1) rfl rfl Try.func16 (by kernel_rfl) rfl #[.string (⟨#[98, 114]⟩ : ByteArray)] rfl (by (try simp only [List.map_toArray, List.map_cons, List.map_nil]); first | done | rfl | (simp only [List.length_drop, List.length_take]; rfl)) ?_; (with_reducible refine (elem_Kind.calls k (⟨#[98, 114]⟩ : ByteArray) t133 _ A1.out).mono ?_); rintro e w' ⟨rfl, ⟨nd, rfl⟩⟩; refine ⟨_, rfl, ?_⟩) | (go_at_call 16; (with_reducible refine (elem_Kind.calls k (⟨#[116, 105, 116, 108, 101]⟩ : ByteArray) t134 _ A3.out).mono ?_); rintro e w' ⟨rfl, ⟨nd, rfl⟩⟩) | (go_at_call 16; (with_reducible refine (elem_Kind.calls k (⟨#[115, 99, 114, 105, 112, 116]⟩ : ByteArray) t135 _ A5.out).mono ?_); rintro e w' ⟨rfl, ⟨nd, rfl⟩⟩) | (go_at_call 16; (with_reducible refine (elem_Kind.calls k (⟨#[115, 116, 121, 108, 101]⟩ : ByteArray) t136 _ A7.out).mono ?_); rintro e w' ⟨rfl, ⟨nd, rfl⟩⟩) | (go_at_call 16; (with_reducible refine (elem_Kind.calls k (⟨#[66, 82]⟩ : ByteArray) t137 _ A9.out).mono ?_); rintro e w' ⟨rfl, ⟨nd, rfl⟩⟩))
      go_ret
      exact ⟨by first | rfl | (simp; done) | (simp [*]; done), by repeat (first | exact Drawn0.refl _ | apply Drawn0.step)⟩
    ·rw [if_neg c8] at H
     have c8b0 : (t136 == 4) = false := beq_eq_false_iff_ne.mpr c8
     have c8b1 : (t136 != 4) = true := bne_iff_ne.mpr c8
     obtain rfl := Option.some.inj H
     go_enter Try.func20, Try.ntmps20
     go_wp2_with (first | ((with_reducible refine gate_callee (f := 16) rfl ?_); refine goesL_ (some 1) rfl rfl Try.func16 (by kernel_rfl) rfl #[.string (⟨#[98, 114]⟩ : ByteArray)] rfl (by (try simp only [List.map_toArray, List.map_cons, List.map_nil]); first | done | rfl | (simp only [List.length_drop, List.length_take]; rfl)) ?_; (with_reducible refine (elem_Kind.calls k (⟨#[98, 114]⟩ : ByteArray) t133 _ A1.out).mono ?_); rintro e w' ⟨rfl, ⟨nd, rfl⟩⟩; refine ⟨_, rfl, ?_⟩) | (go_at_call 16; (with_reducible refine (elem_Kind.calls k (⟨#[116, 105, 116, 108, 101]⟩ : ByteArray) t134 _ A3.out).mono ?_); rintro e w' ⟨rfl, ⟨nd, rfl⟩⟩) | (go_at_call 16; (with_reducible refine (elem_Kind.calls k (⟨#[115, 99, 114, 105, 112, 116]⟩ : ByteArray) t135 _ A5.out).mono ?_); rintro e w' ⟨rfl, ⟨nd, rfl⟩⟩) | (go_at_call 16; (with_reducible refine (elem_Kind.calls k (⟨#[115, 116, 121, 108, 101]⟩ : ByteArray) t136 _ A7.out).mono ?_); rintro e w' ⟨rfl, ⟨nd, rfl⟩⟩))
     go_ret
     exact ⟨by first | rfl | (simp; done) | (simp [*]; done), by repeat (first | exact Drawn0.refl _ | apply Drawn0.step)⟩
   ·rw [if_neg c6] at H
    have c6b0 : (t135 == 3) = false := beq_eq_false_iff_ne.mpr c6
    have c6b1 : (t135 != 3) = true := bne_iff_ne.mpr c6
    obtain rfl := Option.some.inj H
    go_enter Try.func20, Try.ntmps20
    go_wp2_with (first | ((with_reducible refine gate_callee (f := 16) rfl ?_); refine goesL_ (some 1) rfl rfl Try.func16 (by kernel_rfl) rfl #[.string (⟨#[98, 114]⟩ : ByteArray)] rfl (by (try simp only [List.map_toArray, List.map_cons, List.map_nil]); first | done | rfl | (simp only [List.length_drop, List.length_take]; rfl)) ?_; (with_reducible refine (elem_Kind.calls k (⟨#[98, 114]⟩ : ByteArray) t133 _ A1.out).mono ?_); rintro e w' ⟨rfl, ⟨nd, rfl⟩⟩; refine ⟨_, rfl, ?_⟩) | (go_at_call 16; (with_reducible refine (elem_Kind.calls k (⟨#[116, 105, 116, 108, 101]⟩ : ByteArray) t134 _ A3.out).mono ?_); rintro e w' ⟨rfl, ⟨nd, rfl⟩⟩) | (go_at_call 16; (with_reducible refine (elem_Kind.calls k (⟨#[115, 99, 114, 105, 112, 116]⟩ : ByteArray) t135 _ A5.out).mono ?_); rintro e w' ⟨rfl, ⟨nd, rfl⟩⟩))
    go_ret
    exact ⟨by first | rfl | (simp; done) | (simp [*]; done), by repeat (first | exact Drawn0.refl _ | apply Drawn0.step)⟩
  ·rw [if_neg c4] at H
   have c4b0 : (t134 == 2) = false := beq_eq_false_iff_ne.mpr c4
   have c4b1 : (t134 != 2) = true := bne_iff_ne.mpr c4
   obtain rfl := Option.some.inj H
   go_enter Try.func20, Try.ntmps20
   go_wp2_with (first | ((with_reducible refine gate_callee (f := 16) rfl ?_); refine goesL_ (some 1) rfl rfl Try.func16 (by kernel_rfl) rfl #[.string (⟨#[98, 114]⟩ : ByteArray)] rfl (by (try simp only [List.map_toArray, List.map_cons, List.map_nil]); first | done | rfl | (simp only [List.length_drop, List.length_take]; rfl)) ?_; (with_reducible refine (elem_Kind.calls k (⟨#[98, 114]⟩ : ByteArray) t133 _ A1.out).mono ?_); rintro e w' ⟨rfl, ⟨nd, rfl⟩⟩; refine ⟨_, rfl, ?_⟩) | (go_at_call 16; (with_reducible refine (elem_Kind.calls k (⟨#[116, 105, 116, 108, 101]⟩ : ByteArray) t134 _ A3.out).mono ?_); rintro e w' ⟨rfl, ⟨nd, rfl⟩⟩))
   go_ret
   exact ⟨by first | rfl | (simp; done) | (simp [*]; done), by repeat (first | exact Drawn0.refl _ | apply Drawn0.step)⟩
 ·rw [if_neg c2] at H
  have c2b0 : (t133 == 1) = false := beq_eq_false_iff_ne.mpr c2
  have c2b1 : (t133 != 1) = true := bne_iff_ne.mpr c2
  obtain rfl := Option.some.inj H
  go_enter Try.func20, Try.ntmps20
  go_wp2_with (first | ((with_reducible refine gate_callee (f := 16) rfl ?_); refine goesL_ (some 1) rfl rfl Try.func16 (by kernel_rfl) rfl #[.string (⟨#[98, 114]⟩ : ByteArray)] rfl (by (try simp only [List.map_toArray, List.map_cons, List.map_nil]); first | done | rfl | (simp only [List.length_drop, List.length_take]; rfl)) ?_; (with_reducible refine (elem_Kind.calls k (⟨#[98, 114]⟩ : ByteArray) t133 _ A1.out).mono ?_); rintro e w' ⟨rfl, ⟨nd, rfl⟩⟩; refine ⟨_, rfl, ?_⟩))
  go_ret
  exact ⟨by first | rfl | (simp; done) | (simp [*]; done), by repeat (first | exact Drawn0.refl _ | apply Drawn0.step)⟩

end Go.Proofs.Ytnhhbfanpnpgdaa.XF
