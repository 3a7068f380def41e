/- Laid by xprint.py, a program of this session over the kit's print: for each Go function one Lean function of the same answers, and the walk that shows it. Plain lemmas on the printed functions' words (rounds, bytes): no program. tok's small functions: walked. -/
import Derived.Test.YtgbaakopneldaaaDoorQ0
import Derived.Test.YtgbaakopneldaaaDoorQ1
import Derived.Test.YtgbaakopneldaaaDoorWMore
import Derived.Lib.Bytealg
import Derived.Laws.BitsLemmas
section
namespace Go.Proofs.YtgbaakopneldaaaDoor.XK
open Go.RowKit Go.Proofs.YtgbaakopneldaaaDoorW.PrintWords Go.Proofs.YtgbaakopneldaaaDoorW.PrintLast Go.Proofs.YtgbaakopneldaaaDoorW.PrintMore
attribute [local go_sem] max2_int min2_int max_two min_two max_three min_three max_four min_four   -- for this text's walks alone
set_option linter.unusedVariables false
set_option linter.unusedSimpArgs false
attribute [local go_sem high] eqA47
-- NOT PRINTED: function 51 (tok_at)
-- NOT PRINTED: function 23 (tok_data)
-- NOT PRINTED: function 71 (utf_LowerByte)
-- NOT PRINTED: function 52 (utf_Letter)
-- NOT PRINTED: function 53 (tok_more)
-- NOT PRINTED: function 24 (tok_tagOpen)
-- NOT PRINTED: function 25 (tok_endOpen)
-- NOT PRINTED: function 57 (tok_blank)
/-! ### elem_Kind: function 69 -/
mutual
def elem_Kind.j0 : Nat → ByteArray → Bool → Option (Int)
 | 0, _, _ => none
 | k + 1, x3, x4 => if x4 = true then (some 1) else (if x3.toList = ([116, 105, 116, 108, 101] : List UInt8) then (elem_Kind.j1 k x3 (x3.toList == ([116, 105, 116, 108, 101] : List UInt8))) else (elem_Kind.j1 k x3 (x3.toList == ([116, 101, 120, 116, 97, 114, 101, 97] : List UInt8))))
def elem_Kind.j1 : Nat → ByteArray → Bool → Option (Int)
 | 0, _, _ => none
 | k + 1, x3, x11 => if x11 = true then (some 2) else (if x3.toList = ([115, 99, 114, 105, 112, 116] : List UInt8) then (some 3) else (if x3.toList = ([115, 116, 121, 108, 101] : List UInt8) then (some 4) else (some 0)))
end
def elem_Kind.f (k : Nat) (a0 : ByteArray) : Option (Int) := if a0.toList = ([98, 114] : List UInt8) then (elem_Kind.j0 k a0 (a0.toList == ([98, 114] : List UInt8))) else (if a0.toList = ([105, 109, 103] : List UInt8) then (elem_Kind.j0 k a0 (a0.toList == ([105, 109, 103] : List UInt8))) else (if a0.toList = ([105, 110, 112, 117, 116] : List UInt8) then (elem_Kind.j0 k a0 (a0.toList == ([105, 110, 112, 117, 116] : List UInt8))) else (if a0.toList = ([104, 114] : List UInt8) then (elem_Kind.j0 k a0 (a0.toList == ([104, 114] : List UInt8))) else (if a0.toList = ([109, 101, 116, 97] : List UInt8) then (elem_Kind.j0 k a0 (a0.toList == ([109, 101, 116, 97] : List UInt8))) else (elem_Kind.j0 k a0 (a0.toList == ([108, 105, 110, 107] : List UInt8)))))))
theorem elem_Kind.mono_l : ∀ k, (∀ y0 y1, LeO (elem_Kind.j0 k y0 y1) (elem_Kind.j0 (k + 1) y0 y1)) ∧ (∀ y0 y1, LeO (elem_Kind.j1 k y0 y1) (elem_Kind.j1 (k + 1) y0 y1))
 | 0 => ⟨fun _ _ r h => by simp [elem_Kind.j0] at h, fun _ _ r h => by simp [elem_Kind.j1] at h⟩
 | k + 1 => by
  obtain ⟨ih0, ih1⟩ := elem_Kind.mono_l k
  refine ⟨?_, ?_⟩
  ·intro y0 y1
   unfold elem_Kind.j0
   repeat' first
   | (with_reducible exact ih0 _ _)
   | (with_reducible exact ih1 _ _)
   | (with_reducible exact LeO.refl _)
   | (with_reducible exact LeO.none _)
   | (with_reducible refine LeO.ite ?_ ?_)
   | (with_reducible refine LeO.bind ?_ (fun _ => ?_))
   | exact ih0 _ _
   | exact ih1 _ _
   | exact LeO.none _
   | refine LeO.ite ?_ ?_
   | refine LeO.bind ?_ (fun _ => ?_)
  ·intro y0 y1
   unfold elem_Kind.j1
   repeat' first
   | (with_reducible exact ih0 _ _)
   | (with_reducible exact ih1 _ _)
   | (with_reducible exact LeO.refl _)
   | (with_reducible exact LeO.none _)
   | (with_reducible refine LeO.ite ?_ ?_)
   | (with_reducible refine LeO.bind ?_ (fun _ => ?_))
   | exact ih0 _ _
   | exact ih1 _ _
   | exact LeO.none _
   | refine LeO.ite ?_ ?_
   | refine LeO.bind ?_ (fun _ => ?_)
theorem elem_Kind.mono : ∀ a0 k, LeO (elem_Kind.f k a0) (elem_Kind.f (k + 1) a0) := by
 intro a0 k
 obtain ⟨ih0, ih1⟩ := elem_Kind.mono_l k
 unfold elem_Kind.f
 repeat' first
   | (with_reducible exact ih0 _ _)
   | (with_reducible exact ih1 _ _)
   | (with_reducible exact LeO.refl _)
   | (with_reducible exact LeO.none _)
   | (with_reducible refine LeO.ite ?_ ?_)
   | (with_reducible refine LeO.bind ?_ (fun _ => ?_))
   | exact ih0 _ _
   | exact ih1 _ _
   | exact LeO.none _
   | refine LeO.ite ?_ ?_
   | refine LeO.bind ?_ (fun _ => ?_)
set_option maxHeartbeats 8000000 in
set_option maxRecDepth 100000 in
theorem elem_Kind.calls (k : Nat) (a0 : ByteArray) (r : Int) (w : World) (h : elem_Kind.f k a0 = some r) :
  Calls Tryd.prog 69 #[.string a0] w fun e w' => e = .returned (.int .i64 r) ∧ Drawn0 w w' := by
 have H : (if a0.toList = ([98, 114] : List UInt8) then (elem_Kind.j0 k a0 (a0.toList == ([98, 114] : List UInt8))) else (if a0.toList = ([105, 109, 103] : List UInt8) then (elem_Kind.j0 k a0 (a0.toList == ([105, 109, 103] : List UInt8))) else (if a0.toList = ([105, 110, 112, 117, 116] : List UInt8) then (elem_Kind.j0 k a0 (a0.toList == ([105, 110, 112, 117, 116] : List UInt8))) else (if a0.toList = ([104, 114] : List UInt8) then (elem_Kind.j0 k a0 (a0.toList == ([104, 114] : List UInt8))) else (if a0.toList = ([109, 101, 116, 97] : List UInt8) then (elem_Kind.j0 k a0 (a0.toList == ([109, 101, 116, 97] : List UInt8))) else (elem_Kind.j0 k a0 (a0.toList == ([108, 105, 110, 107] : List UInt8)))))))) = some r := h
 clear h
 have HC2 := Aside0.mk H
 clear H
 go_enter Tryd.func69, Tryd.ntmps69
 go_upto_if 4 with (fail)
 go_cut [4] (fun v4 wc => ∃ (kq : Nat) (x4_1 : Bool), v4 = .bool x4_1 ∧ Aside0 (elem_Kind.j0 kq a0 x4_1 = some r) ∧ Aside0 (kq ≤ k) ∧ Drawn0 w wc)
 case first =>
  have H := HC2.out
  clear HC2
  by_cases c3 : a0.toList = ([98, 114] : List UInt8)
  ·rw [if_pos c3] at H
   have c3b0 : (a0.toList == ([98, 114] : List UInt8)) = true := beq_iff_eq.mpr c3
   have c3b1 : (a0.toList != ([98, 114] : List UInt8)) = false := bne_eq_false_iff_eq.mpr c3
   clear c3
   (first | rw [c3b0] | (simp only [i64_w, i32_w]; rw [c3b0]) | skip)
   have H' := Aside0.mk H
   clear H
   go_wp2
   go_meet
   case rel => exact ⟨_, ((a0.toList == ([98, 114] : List UInt8))), (by first | rfl | (simp; done) | (simp [*]; done)), H', ⟨by first | omega | exact Nat.le_refl _⟩, by repeat (first | exact Drawn0.refl _ | apply Drawn0.step)⟩
  ·rw [if_neg c3] at H
   have c3b0 : (a0.toList == ([98, 114] : List UInt8)) = false := beq_eq_false_iff_ne.mpr c3
   have c3b1 : (a0.toList != ([98, 114] : List UInt8)) = true := bne_iff_ne.mpr c3
   (first | rw [c3b0] | (simp only [i64_w, i32_w]; rw [c3b0]) | skip)
   by_cases c4 : a0.toList = ([105, 109, 103] : List UInt8)
   ·rw [if_pos c4] at H
    have c4b0 : (a0.toList == ([105, 109, 103] : List UInt8)) = true := beq_iff_eq.mpr c4
    have c4b1 : (a0.toList != ([105, 109, 103] : List UInt8)) = false := bne_eq_false_iff_eq.mpr c4
    clear c4
    have H' := Aside0.mk H
    clear H
    go_wp2
    go_meet
    case rel => exact ⟨_, ((a0.toList == ([105, 109, 103] : List UInt8))), (by first | rfl | (simp; done) | (simp [*]; done)), H', ⟨by first | omega | exact Nat.le_refl _⟩, by repeat (first | exact Drawn0.refl _ | apply Drawn0.step)⟩
   ·rw [if_neg c4] at H
    have c4b0 : (a0.toList == ([105, 109, 103] : List UInt8)) = false := beq_eq_false_iff_ne.mpr c4
    have c4b1 : (a0.toList != ([105, 109, 103] : List UInt8)) = true := bne_iff_ne.mpr c4
    by_cases c5 : a0.toList = ([105, 110, 112, 117, 116] : List UInt8)
    ·rw [if_pos c5] at H
     have c5b0 : (a0.toList == ([105, 110, 112, 117, 116] : List UInt8)) = true := beq_iff_eq.mpr c5
     have c5b1 : (a0.toList != ([105, 110, 112, 117, 116] : List UInt8)) = false := bne_eq_false_iff_eq.mpr c5
     clear c5
     have H' := Aside0.mk H
     clear H
     go_wp2
     go_meet
     case rel => exact ⟨_, ((a0.toList == ([105, 110, 112, 117, 116] : List UInt8))), (by first | rfl | (simp; done) | (simp [*]; done)), H', ⟨by first | omega | exact Nat.le_refl _⟩, by repeat (first | exact Drawn0.refl _ | apply Drawn0.step)⟩
    ·rw [if_neg c5] at H
     have c5b0 : (a0.toList == ([105, 110, 112, 117, 116] : List UInt8)) = false := beq_eq_false_iff_ne.mpr c5
     have c5b1 : (a0.toList != ([105, 110, 112, 117, 116] : List UInt8)) = true := bne_iff_ne.mpr c5
     by_cases c6 : a0.toList = ([104, 114] : List UInt8)
     ·rw [if_pos c6] at H
      have c6b0 : (a0.toList == ([104, 114] : List UInt8)) = true := beq_iff_eq.mpr c6
      have c6b1 : (a0.toList != ([104, 114] : List UInt8)) = false := bne_eq_false_iff_eq.mpr c6
      clear c6
      have H' := Aside0.mk H
      clear H
      go_wp2
      go_meet
      case rel => exact ⟨_, ((a0.toList == ([104, 114] : List UInt8))), (by first | rfl | (simp; done) | (simp [*]; done)), H', ⟨by first | omega | exact Nat.le_refl _⟩, by repeat (first | exact Drawn0.refl _ | apply Drawn0.step)⟩
     ·rw [if_neg c6] at H
      have c6b0 : (a0.toList == ([104, 114] : List UInt8)) = false := beq_eq_false_iff_ne.mpr c6
      have c6b1 : (a0.toList != ([104, 114] : List UInt8)) = true := bne_iff_ne.mpr c6
      by_cases c7 : a0.toList = ([109, 101, 116, 97] : List UInt8)
      ·rw [if_pos c7] at H
       have c7b0 : (a0.toList == ([109, 101, 116, 97] : List UInt8)) = true := beq_iff_eq.mpr c7
       have c7b1 : (a0.toList != ([109, 101, 116, 97] : List UInt8)) = false := bne_eq_false_iff_eq.mpr c7
       clear c7
       have H' := Aside0.mk H
       clear H
       go_wp2
       go_meet
       case rel => exact ⟨_, ((a0.toList == ([109, 101, 116, 97] : List UInt8))), (by first | rfl | (simp; done) | (simp [*]; done)), H', ⟨by first | omega | exact Nat.le_refl _⟩, by repeat (first | exact Drawn0.refl _ | apply Drawn0.step)⟩
      ·rw [if_neg c7] at H
       have c7b0 : (a0.toList == ([109, 101, 116, 97] : List UInt8)) = false := beq_eq_false_iff_ne.mpr c7
       have c7b1 : (a0.toList != ([109, 101, 116, 97] : List UInt8)) = true := bne_iff_ne.mpr c7
       have H' := Aside0.mk H
       clear H
       go_wp2
       go_meet
       case rel => exact ⟨_, ((a0.toList == ([108, 105, 110, 107] : List UInt8))), (by first | rfl | (simp; done) | (simp [*]; done)), H', ⟨by first | omega | exact Nat.le_refl _⟩, by repeat (first | exact Drawn0.refl _ | apply Drawn0.step)⟩
 case rest =>
  clear HC2
  try clear p2
  try clear c3
  try clear c3b0
  try clear c3b1
  try clear c4
  try clear c4b0
  try clear c4b1
  try clear c5
  try clear c5b0
  try clear c5b1
  try clear c6
  try clear c6b0
  try clear c6b1
  try clear c7
  try clear c7b0
  try clear c7b1
  obtain ⟨kq, x4_1, rfl, HA, HJ1, ⟨mc1, rfl⟩⟩ := hcut
  cases kq with
  | zero => exact absurd HA.out (by simp [elem_Kind.j0])
  | succ kj1 =>
   have H := HA.out
   clear HA
   simp only [elem_Kind.j0] at H
   by_cases c8 : x4_1 = true
   ·subst c8
    have H1 : (some 1) = some r := by rw [if_pos rfl] at H; exact H
    clear H
    have H := H1
    clear H1
    obtain rfl := Option.some.inj H
    go_wp2
    go_ret
    exact ⟨by first | rfl | (simp; done) | (simp [*]; done), by repeat (first | exact Drawn0.refl _ | apply Drawn0.step)⟩
   ·replace c8 := Bool.eq_false_iff.mpr c8
    subst c8
    have H1 : (if a0.toList = ([116, 105, 116, 108, 101] : List UInt8) then (elem_Kind.j1 kj1 a0 (a0.toList == ([116, 105, 116, 108, 101] : List UInt8))) else (elem_Kind.j1 kj1 a0 (a0.toList == ([116, 101, 120, 116, 97, 114, 101, 97] : List UInt8)))) = some r := by rw [if_neg (show ¬ (false = true) by decide)] at H; exact H
    clear H
    have H := H1
    clear H1
    have HC9 := Aside0.mk H
    clear H
    go_upto_if 11 with (fail)
    go_cut [11] (fun v11 wc => ∃ (kq : Nat) (x11_8 : Bool), v11 = .bool x11_8 ∧ Aside0 (elem_Kind.j1 kq a0 x11_8 = some r) ∧ Aside0 (kq ≤ kj1) ∧ Drawn0 w wc)
    case first =>
     have H := HC9.out
     clear HC9
     by_cases c10 : a0.toList = ([116, 105, 116, 108, 101] : List UInt8)
     ·rw [if_pos c10] at H
      have c10b0 : (a0.toList == ([116, 105, 116, 108, 101] : List UInt8)) = true := beq_iff_eq.mpr c10
      have c10b1 : (a0.toList != ([116, 105, 116, 108, 101] : List UInt8)) = false := bne_eq_false_iff_eq.mpr c10
      clear c10
      (first | rw [c10b0] | (simp only [i64_w, i32_w]; rw [c10b0]) | skip)
      have H' := Aside0.mk H
      clear H
      go_wp2
      go_meet
      case rel => exact ⟨_, ((a0.toList == ([116, 105, 116, 108, 101] : List UInt8))), (by first | rfl | (simp; done) | (simp [*]; done)), H', ⟨by have := HJ1.out; first | omega | exact Nat.le_refl _⟩, by repeat (first | exact Drawn0.refl _ | apply Drawn0.step)⟩
     ·rw [if_neg c10] at H
      have c10b0 : (a0.toList == ([116, 105, 116, 108, 101] : List UInt8)) = false := beq_eq_false_iff_ne.mpr c10
      have c10b1 : (a0.toList != ([116, 105, 116, 108, 101] : List UInt8)) = true := bne_iff_ne.mpr c10
      (first | rw [c10b0] | (simp only [i64_w, i32_w]; rw [c10b0]) | skip)
      have H' := Aside0.mk H
      clear H
      go_wp2
      go_meet
      case rel => exact ⟨_, ((a0.toList == ([116, 101, 120, 116, 97, 114, 101, 97] : List UInt8))), (by first | rfl | (simp; done) | (simp [*]; done)), H', ⟨by have := HJ1.out; first | omega | exact Nat.le_refl _⟩, by repeat (first | exact Drawn0.refl _ | apply Drawn0.step)⟩
    case rest =>
     clear HC9
     try clear c1
     try clear p2
     try clear c3
     try clear c3b0
     try clear c3b1
     try clear c4
     try clear c4b0
     try clear c4b1
     try clear c5
     try clear c5b0
     try clear c5b1
     try clear c6
     try clear c6b0
     try clear c6b1
     try clear c7
     try clear c7b0
     try clear c7b1
     try clear c8
     try clear c10
     try clear c10b0
     try clear c10b1
     try clear p2
     obtain ⟨kq, x11_8, rfl, HA, HJ8, ⟨mc8, rfl⟩⟩ := hcut
     cases kq with
     | zero => exact absurd HA.out (by simp [elem_Kind.j1])
     | succ kj8 =>
      have H := HA.out
      clear HA
      simp only [elem_Kind.j1] at H
      by_cases c11 : x11_8 = true
      ·subst c11
       have H1 : (some 2) = some r := by rw [if_pos rfl] at H; exact H
       clear H
       have H := H1
       clear H1
       obtain rfl := Option.some.inj H
       go_wp2
       go_ret
       exact ⟨by first | rfl | (simp; done) | (simp [*]; done), by repeat (first | exact Drawn0.refl _ | apply Drawn0.step)⟩
      ·replace c11 := Bool.eq_false_iff.mpr c11
       subst c11
       have H1 : (if a0.toList = ([115, 99, 114, 105, 112, 116] : List UInt8) then (some 3) else (if a0.toList = ([115, 116, 121, 108, 101] : List UInt8) then (some 4) else (some 0))) = some r := by rw [if_neg (show ¬ (false = true) by decide)] at H; exact H
       clear H
       have H := H1
       clear H1
       by_cases c12 : a0.toList = ([115, 99, 114, 105, 112, 116] : List UInt8)
       ·rw [if_pos c12] at H
        have c12b0 : (a0.toList == ([115, 99, 114, 105, 112, 116] : List UInt8)) = true := beq_iff_eq.mpr c12
        have c12b1 : (a0.toList != ([115, 99, 114, 105, 112, 116] : List UInt8)) = false := bne_eq_false_iff_eq.mpr c12
        clear c12
        obtain rfl := Option.some.inj H
        go_wp2
        go_ret
        exact ⟨by first | rfl | (simp; done) | (simp [*]; done), by repeat (first | exact Drawn0.refl _ | apply Drawn0.step)⟩
       ·rw [if_neg c12] at H
        have c12b0 : (a0.toList == ([115, 99, 114, 105, 112, 116] : List UInt8)) = false := beq_eq_false_iff_ne.mpr c12
        have c12b1 : (a0.toList != ([115, 99, 114, 105, 112, 116] : List UInt8)) = true := bne_iff_ne.mpr c12
        by_cases c13 : a0.toList = ([115, 116, 121, 108, 101] : List UInt8)
        ·rw [if_pos c13] at H
         have c13b0 : (a0.toList == ([115, 116, 121, 108, 101] : List UInt8)) = true := beq_iff_eq.mpr c13
         have c13b1 : (a0.toList != ([115, 116, 121, 108, 101] : List UInt8)) = false := bne_eq_false_iff_eq.mpr c13
         clear c13
         obtain rfl := Option.some.inj H
         go_wp2
         go_ret
         exact ⟨by first | rfl | (simp; done) | (simp [*]; done), by repeat (first | exact Drawn0.refl _ | apply Drawn0.step)⟩
        ·rw [if_neg c13] at H
         have c13b0 : (a0.toList == ([115, 116, 121, 108, 101] : List UInt8)) = false := beq_eq_false_iff_ne.mpr c13
         have c13b1 : (a0.toList != ([115, 116, 121, 108, 101] : List UInt8)) = true := bne_iff_ne.mpr c13
         obtain rfl := Option.some.inj H
         go_wp2
         go_ret
         exact ⟨by first | rfl | (simp; done) | (simp [*]; done), by repeat (first | exact Drawn0.refl _ | apply Drawn0.step)⟩
-- NOT PRINTED: function 58 (tok_closes)
-- NOT PRINTED: function 60 (tok_in)
-- NOT PRINTED: function 54 (tok_between)
-- NOT PRINTED: function 26 (tok_tagName)
-- NOT PRINTED: function 55 (tok_attr)
-- NOT PRINTED: function 27 (tok_begins)
-- NOT PRINTED: function 56 (tok_names)
-- NOT PRINTED: function 28 (tok_attrName)
-- NOT PRINTED: function 29 (tok_afterName)
-- NOT PRINTED: function 30 (tok_beforeValue)
-- NOT PRINTED: function 59 (tok_quoted)
-- NOT PRINTED: function 31 (tok_double)
-- NOT PRINTED: function 32 (tok_single)
-- NOT PRINTED: function 33 (tok_bare)
-- NOT PRINTED: function 61 (tok_bangs)
-- NOT PRINTED: function 34 (tok_bang)
-- NOT PRINTED: function 35 (tok_bangDash)
-- NOT PRINTED: function 62 (tok_either)
-- NOT PRINTED: function 36 (tok_comment)
-- NOT PRINTED: function 37 (tok_commentDash)
-- NOT PRINTED: function 38 (tok_commentEnd)
-- NOT PRINTED: function 39 (tok_bogus)
-- NOT PRINTED: function 63 (tok_held)
-- NOT PRINTED: function 40 (tok_holds)
-- NOT PRINTED: function 41 (tok_heldLt)
-- NOT PRINTED: function 64 (tok_reads)
-- NOT PRINTED: function 42 (tok_heldSlash)
-- NOT PRINTED: function 43 (tok_heldName)
-- NOT PRINTED: function 15 (tok_Step)
-- NOT PRINTED: function 99 (bytealg_IndexByteString)
-- NOT PRINTED: function 90 (stringslite_IndexByte)
-- NOT PRINTED: function 96 (bytealg_IndexString)
-- NOT PRINTED: function 97 (bytealg_Cutover)
-- NOT PRINTED: function 103 (bytealg_hashStr_string)
-- NOT PRINTED: function 98 (bytealg_IndexRabinKarp_string)
-- NOT PRINTED: function 87 (stringslite_Index)
-- NOT PRINTED: function 74 (strings_Index)
-- NOT PRINTED: function 83 (utf8_RuneCountInString)
-- NOT PRINTED: function 84 (bytealg_CountString)
-- NOT PRINTED: function 72 (strings_Count)
-- NOT PRINTED: function 94 (abi_NoEscape)
-- NOT PRINTED: function 85 (strings_Builder_copyCheck)
-- NOT PRINTED: function 95 (bytealg_MakeNoZero)
-- NOT PRINTED: function 86 (strings_Builder_grow)
-- NOT PRINTED: function 73 (strings_Builder_Grow)
-- NOT PRINTED: function 75 (strings_Builder_WriteString)
-- NOT PRINTED: function 88 (utf8_decodeRuneInStringSlow)
-- NOT PRINTED: function 76 (utf8_DecodeRuneInString)
-- NOT PRINTED: function 77 (strings_Builder_String)
-- NOT PRINTED: function 65 (strings_Replace)
-- NOT PRINTED: function 44 (strings_ReplaceAll)
-- NOT PRINTED: function 18 (utf_Lines)
-- NOT PRINTED: function 19 (tok_Start)
-- NOT PRINTED: function 45 (tok_ends)
-- NOT PRINTED: function 80 (strings_IndexByte)
-- NOT PRINTED: function 100 (stringslite_HasPrefix)
-- NOT PRINTED: function 91 (strings_HasPrefix)
-- NOT PRINTED: function 104 (utf_Digit)
-- NOT PRINTED: function 101 (refs_digit)
-- NOT PRINTED: function 102 (utf8_ValidRune)
-- NOT PRINTED: function 92 (refs_numbered)
-- NOT PRINTED: function 93 (refs_named)
-- NOT PRINTED: function 81 (refs_meant)
-- NOT PRINTED: function 82 (strings_Builder_WriteByte)
-- NOT PRINTED: function 70 (refs_Decode)
-- NOT PRINTED: function 89 (api_Attr_89)
-- NOT PRINTED: function 79 (api_Attr_79)
-- NOT PRINTED: function 66 (tok_reader_kept)
-- NOT PRINTED: function 50 (tok_reader_text)
-- NOT PRINTED: function 67 (tok_reader_told)
-- NOT PRINTED: function 46 (tok_reader_tag)
-- NOT PRINTED: function 47 (tok_remarks)
-- NOT PRINTED: function 48 (tok_reader_comment)
-- NOT PRINTED: function 68 (tok_reader_last)
-- NOT PRINTED: function 49 (tok_reader_reads)
-- NOT PRINTED: function 20 (tok_reader_takes)
-- NOT PRINTED: function 21 (tok_reader_rest)
-- NOT PRINTED: function 11 (tok_Tokens)
/-! ### stolelaw0_Num: function 12 -/
def stolelaw0_Num.f (a0 : Int) : Option (Int) := some a0
set_option maxHeartbeats 8000000 in
set_option maxRecDepth 100000 in
theorem stolelaw0_Num.calls (a0 : Int) (r : Int) (w : World) (h : stolelaw0_Num.f a0 = some r) :
  Calls Tryd.prog 12 #[.int .i64 a0] w fun e w' => e = .returned (.int .i64 r) ∧ Drawn0 w w' := by
 have H : (some a0) = some r := h
 clear h
 obtain rfl := Option.some.inj H
 go_enter Tryd.func12, Tryd.ntmps12
 go_wp2
 go_ret
 exact ⟨by first | rfl | (simp; done) | (simp [*]; done), by repeat (first | exact Drawn0.refl _ | apply Drawn0.step)⟩
/-! ### stolelaw0_SameAttrs: function 22 -/
def stolelaw0_SameAttrs.l0 : Nat → List (S47) → List (S47) → Int → Option (Bool)
 | 0, _, _, _ => none
 | k + 1, x0, x1, x5 => if x5 < (x0.length : Int) then (if 0 ≤ x5 then (if x5 < (x1.length : Int) then (if (!((((rd_T47 x0 x5).f0).toList) == (((rd_T47 x1 x5).f0).toList)) || (!((((rd_T47 x0 x5).f1).toList) == (((rd_T47 x1 x5).f1).toList)))) = true then (some false) else (stolelaw0_SameAttrs.l0 k x0 x1 (wrap64 (x5 + 1)))) else (none)) else (none)) else (some true)
def stolelaw0_SameAttrs.f (k : Nat) (l0 : List (S47)) (l1 : List (S47)) : Option (Bool) := if (l0.length : Int) = (l1.length : Int) then (stolelaw0_SameAttrs.l0 k l0 l1 0) else (some false)
theorem stolelaw0_SameAttrs.mono_l : ∀ k, (∀ y0 y1 y2, LeO (stolelaw0_SameAttrs.l0 k y0 y1 y2) (stolelaw0_SameAttrs.l0 (k + 1) y0 y1 y2))
 | 0 => fun _ _ _ r h => by simp [stolelaw0_SameAttrs.l0] at h
 | k + 1 => by
  have ih0 := stolelaw0_SameAttrs.mono_l k
  ·intro y0 y1 y2
   unfold stolelaw0_SameAttrs.l0
   repeat' first
   | (with_reducible exact ih0 _ _ _)
   | (with_reducible exact LeO.refl _)
   | (with_reducible exact LeO.none _)
   | (with_reducible refine LeO.ite ?_ ?_)
   | (with_reducible refine LeO.bind ?_ (fun _ => ?_))
   | exact ih0 _ _ _
   | exact LeO.none _
   | refine LeO.ite ?_ ?_
   | refine LeO.bind ?_ (fun _ => ?_)
theorem stolelaw0_SameAttrs.mono : ∀ a0 a1 k, LeO (stolelaw0_SameAttrs.f k a0 a1) (stolelaw0_SameAttrs.f (k + 1) a0 a1) := by
 intro a0 a1 k
 have ih0 := stolelaw0_SameAttrs.mono_l k
 unfold stolelaw0_SameAttrs.f
 repeat' first
   | (with_reducible exact ih0 _ _ _)
   | (with_reducible exact LeO.refl _)
   | (with_reducible exact LeO.none _)
   | (with_reducible refine LeO.ite ?_ ?_)
   | (with_reducible refine LeO.bind ?_ (fun _ => ?_))
   | exact ih0 _ _ _
   | exact LeO.none _
   | refine LeO.ite ?_ ?_
   | refine LeO.bind ?_ (fun _ => ?_)
set_option maxHeartbeats 8000000 in
set_option maxRecDepth 100000 in
theorem stolelaw0_SameAttrs.calls (k : Nat) (A0 : Option Addr) (c0 : Nat) (l0 : List (S47)) (A1 : Option Addr) (c1 : Nat) (l1 : List (S47)) (r : Bool) (w : World) (hr0 : Kd.C k47 w A0 l0.length l0) (hc0 : l0.length ≤ c0) (hr1 : Kd.C k47 w A1 l1.length l1) (hc1 : l1.length ≤ c1) (h : stolelaw0_SameAttrs.f k l0 l1 = some r) :
  Calls Tryd.prog 22 #[.slice A0 l0.length c0, .slice A1 l1.length c1] w fun e w' => e = .returned (.bool r) ∧ Drawn0 w w' := by
 have hu47 := Tryd.underlying47
 have HR0 := Aside0.mk hr0
 have HC0 := Aside0.mk hc0
 clear hr0 hc0
 have HR1 := Aside0.mk hr1
 have HC1 := Aside0.mk hc1
 clear hr1 hc1
 have H : (if (l0.length : Int) = (l1.length : Int) then (stolelaw0_SameAttrs.l0 k l0 l1 0) else (some false)) = some r := h
 clear h
 by_cases c3 : (l0.length : Int) = (l1.length : Int)
 ·rw [if_pos c3] at H
  have c3b0 : ((l0.length : Int) == (l1.length : Int)) = true := beq_iff_eq.mpr c3
  have c3b1 : ((l0.length : Int) != (l1.length : Int)) = false := bne_eq_false_iff_eq.mpr c3
  have c3b2 : (l0.length == l1.length) = true := by first | simpa using c3 | (simp at c3 ⊢; omega)
  clear c3
  have H' := Aside0.mk H
  clear H
  go_enter Tryd.func22, Tryd.ntmps22
  go_wp2
  repeat (go_quiet (fail); try go_wp2)
  go_loopg [5] k (fun kq v5 w' => ∃ (x5_1 : Int), v5 = .int .i64 x5_1 ∧ Aside0 (stolelaw0_SameAttrs.l0 kq l0 l1 x5_1 = some r) ∧ Aside0 (kq ≤ k) ∧ Drawn0 w w')
  case atStart => exact ⟨(0), (by first | rfl | (simp; done) | (simp [*]; done)), H', ⟨Nat.le_refl _⟩, by repeat (first | exact Drawn0.refl _ | apply Drawn0.step)⟩
  case round =>
   clear H'
   try clear c1
   try clear c2
   try clear p2
   try clear c3
   try clear c3b0
   try clear c3b1
   try clear c3b2
   obtain ⟨x5_1, rfl, HA, HK1, ⟨m1, rfl⟩⟩ := hrel
   cases gk with
   | zero => exact absurd HA.out (by simp [stolelaw0_SameAttrs.l0])
   | succ k1 =>
    have H := HA.out
    clear HA
    simp only [stolelaw0_SameAttrs.l0] at H
    by_cases c4 : x5_1 < (l0.length : Int)
    ·rw [if_pos c4] at H
     have c4b0 : decide (x5_1 < (l0.length : Int)) = true := decide_eq_true c4
     clear c4
     by_cases c5 : 0 ≤ x5_1
     ·rw [if_pos c5] at H
      have c5b0 : decide (0 ≤ x5_1) = true := decide_eq_true c5
      clear c5
      by_cases c6 : x5_1 < (l1.length : Int)
      ·rw [if_pos c6] at H
       have c6b0 : decide (x5_1 < (l1.length : Int)) = true := decide_eq_true c6
       clear c6
       by_cases c7 : (!((((rd_T47 l0 x5_1).f0).toList) == (((rd_T47 l1 x5_1).f0).toList)) || (!((((rd_T47 l0 x5_1).f1).toList) == (((rd_T47 l1 x5_1).f1).toList)))) = true
       ·rw [if_pos c7] at H
        have c7b0 : (!((((rd_T47 l0 x5_1).f0).toList) == (((rd_T47 l1 x5_1).f0).toList)) || (!((((rd_T47 l0 x5_1).f1).toList) == (((rd_T47 l1 x5_1).f1).toList)))) = true := c7
        clear c7
        obtain rfl := Option.some.inj H
        have p101 : 0 ≤ (x5_1 : Int) := of_decide_eq_true (by first | (with_reducible assumption) | assumption)
        have q101 : x5_1 < (l0.length : Int) := of_decide_eq_true (by first | (with_reducible assumption) | assumption)
        obtain ⟨ad101, e101, hx101_0, hx101_1⟩ := at_T47 HR0.out x5_1 p101 q101
        cases e101
        replace p101 := eq_true p101
        replace q101 := eq_true q101
        have p102 : 0 ≤ (x5_1 : Int) := of_decide_eq_true (by first | (with_reducible assumption) | assumption)
        have q102 : x5_1 < (l1.length : Int) := of_decide_eq_true (by first | (with_reducible assumption) | assumption)
        obtain ⟨ad102, e102, hx102_0, hx102_1⟩ := at_T47 HR1.out x5_1 p102 q102
        cases e102
        replace p102 := eq_true p102
        replace q102 := eq_true q102
        go_wp2
        repeat (go_quiet (fail); try go_wp2)
        go_ret
        exact ⟨by first | rfl | (simp; done) | (simp [*]; done), by repeat (first | exact Drawn0.refl _ | apply Drawn0.step)⟩
       ·rw [if_neg c7] at H
        have c7b0 : (!((((rd_T47 l0 x5_1).f0).toList) == (((rd_T47 l1 x5_1).f0).toList)) || (!((((rd_T47 l0 x5_1).f1).toList) == (((rd_T47 l1 x5_1).f1).toList)))) = false := by simpa using c7
        clear c7
        have H' := Aside0.mk H
        clear H
        have p101 : 0 ≤ (x5_1 : Int) := of_decide_eq_true (by first | (with_reducible assumption) | assumption)
        have q101 : x5_1 < (l0.length : Int) := of_decide_eq_true (by first | (with_reducible assumption) | assumption)
        obtain ⟨ad101, e101, hx101_0, hx101_1⟩ := at_T47 HR0.out x5_1 p101 q101
        cases e101
        replace p101 := eq_true p101
        replace q101 := eq_true q101
        have p102 : 0 ≤ (x5_1 : Int) := of_decide_eq_true (by first | (with_reducible assumption) | assumption)
        have q102 : x5_1 < (l1.length : Int) := of_decide_eq_true (by first | (with_reducible assumption) | assumption)
        obtain ⟨ad102, e102, hx102_0, hx102_1⟩ := at_T47 HR1.out x5_1 p102 q102
        cases e102
        replace p102 := eq_true p102
        replace q102 := eq_true q102
        go_wp2
        repeat (go_quiet (fail); try go_wp2)
        go_roundg k1
        case measure => have := HK1.out; omega
        case rel => exact ⟨(wrap64 (x5_1 + 1)), (by first | rfl | (simp; done) | (simp [*]; done)), H', ⟨by have := HK1.out; omega⟩, by repeat (first | exact Drawn0.refl _ | apply Drawn0.step)⟩
      ·rw [if_neg c6] at H
       exact absurd H (by simp)
     ·rw [if_neg c5] at H
      exact absurd H (by simp)
    ·rw [if_neg c4] at H
     have c4b0 : decide (x5_1 < (l0.length : Int)) = false := decide_eq_false c4
     clear c4
     obtain rfl := Option.some.inj H
     go_wp2
     repeat (go_quiet (fail); try go_wp2)
     go_ret
     exact ⟨by first | rfl | (simp; done) | (simp [*]; done), by repeat (first | exact Drawn0.refl _ | apply Drawn0.step)⟩
 ·rw [if_neg c3] at H
  have c3b0 : ((l0.length : Int) == (l1.length : Int)) = false := beq_eq_false_iff_ne.mpr c3
  have c3b1 : ((l0.length : Int) != (l1.length : Int)) = true := bne_iff_ne.mpr c3
  have c3b2 : (l0.length == l1.length) = false := by first | simpa using c3 | (simp at c3 ⊢; omega)
  obtain rfl := Option.some.inj H
  go_enter Tryd.func22, Tryd.ntmps22
  go_wp2
  repeat (go_quiet (fail); try go_wp2)
  go_ret
  exact ⟨by first | rfl | (simp; done) | (simp [*]; done), by repeat (first | exact Drawn0.refl _ | apply Drawn0.step)⟩
-- NOT PRINTED: function 14 (stolelaw0_SameTokens)
-- NOT PRINTED: function 17 (stolelaw5_at)
-- NOT PRINTED: function 10 (stolelaw5_awake)
-- NOT PRINTED: function 3 (stolelaw5_TokenTexts)
/-! ### stolelaw5_quiet: function 13 -/
mutual
def stolelaw5_quiet.l0 : Nat → ByteArray → Int → ByteArray → Int → Option (ByteArray)
 | 0, _, _, _, _ => none
 | k + 1, x0, x1, x5, x6 => if x6 < (x0.size : Int) then (stolelaw5_quiet.j1 k x0 x1 x5 x6 (decide (x6 < 300))) else (stolelaw5_quiet.j1 k x0 x1 x5 x6 false)
def stolelaw5_quiet.j1 : Nat → ByteArray → Int → ByteArray → Int → Bool → Option (ByteArray)
 | 0, _, _, _, _, _ => none
 | k + 1, x0, x1, x5, x6, x14 => if x14 = true then (if 0 ≤ x6 then (if x6 < (x0.size : Int) then (if (bt x0 x6) = 60 then (stolelaw5_quiet.l0 k x0 x1 x5 (wrap64 (x6 + 1))) else (if (bt x0 x6) = 38 then (stolelaw5_quiet.l0 k x0 x1 x5 (wrap64 (x6 + 1))) else (if (bt x0 x6) = 13 then (stolelaw5_quiet.l0 k x0 x1 x5 (wrap64 (x6 + 1))) else (if (bt x0 x6) = x1 then (stolelaw5_quiet.l0 k x0 x1 x5 (wrap64 (x6 + 1))) else (if x6 ≤ (wrap64 (x6 + 1)) then (if (wrap64 (x6 + 1)) ≤ (x0.size : Int) then (if x5.size + ((x0.extract (x6 : Int).toNat ((wrap64 (x6 + 1)) : Int).toNat).size) ≤ 9223372036854775807 then (stolelaw5_quiet.l0 k x0 x1 (x5 ++ (x0.extract (x6 : Int).toNat ((wrap64 (x6 + 1)) : Int).toNat)) (wrap64 (x6 + 1))) else (none)) else (none)) else (none)))))) else (none)) else (none)) else (some x5)
end
def stolelaw5_quiet.f (k : Nat) (a0 : ByteArray) (a1 : Int) : Option (ByteArray) := stolelaw5_quiet.l0 k a0 a1 (⟨#[]⟩ : ByteArray) 0
theorem stolelaw5_quiet.mono_l : ∀ k, (∀ y0 y1 y2 y3, LeO (stolelaw5_quiet.l0 k y0 y1 y2 y3) (stolelaw5_quiet.l0 (k + 1) y0 y1 y2 y3)) ∧ (∀ y0 y1 y2 y3 y4, LeO (stolelaw5_quiet.j1 k y0 y1 y2 y3 y4) (stolelaw5_quiet.j1 (k + 1) y0 y1 y2 y3 y4))
 | 0 => ⟨fun _ _ _ _ r h => by simp [stolelaw5_quiet.l0] at h, fun _ _ _ _ _ r h => by simp [stolelaw5_quiet.j1] at h⟩
 | k + 1 => by
  obtain ⟨ih0, ih1⟩ := stolelaw5_quiet.mono_l k
  refine ⟨?_, ?_⟩
  ·intro y0 y1 y2 y3
   unfold stolelaw5_quiet.l0
   repeat' first
   | (with_reducible exact ih0 _ _ _ _)
   | (with_reducible exact ih1 _ _ _ _ _)
   | (with_reducible exact LeO.refl _)
   | (with_reducible exact LeO.none _)
   | (with_reducible refine LeO.ite ?_ ?_)
   | (with_reducible refine LeO.bind ?_ (fun _ => ?_))
   | exact ih0 _ _ _ _
   | exact ih1 _ _ _ _ _
   | exact LeO.none _
   | refine LeO.ite ?_ ?_
   | refine LeO.bind ?_ (fun _ => ?_)
  ·intro y0 y1 y2 y3 y4
   unfold stolelaw5_quiet.j1
   repeat' first
   | (with_reducible exact ih0 _ _ _ _)
   | (with_reducible exact ih1 _ _ _ _ _)
   | (with_reducible exact LeO.refl _)
   | (with_reducible exact LeO.none _)
   | (with_reducible refine LeO.ite ?_ ?_)
   | (with_reducible refine LeO.bind ?_ (fun _ => ?_))
   | exact ih0 _ _ _ _
   | exact ih1 _ _ _ _ _
   | exact LeO.none _
   | refine LeO.ite ?_ ?_
   | refine LeO.bind ?_ (fun _ => ?_)
theorem stolelaw5_quiet.mono : ∀ a0 a1 k, LeO (stolelaw5_quiet.f k a0 a1) (stolelaw5_quiet.f (k + 1) a0 a1) := by
 intro a0 a1 k
 obtain ⟨ih0, ih1⟩ := stolelaw5_quiet.mono_l k
 unfold stolelaw5_quiet.f
 repeat' first
   | (with_reducible exact ih0 _ _ _ _)
   | (with_reducible exact ih1 _ _ _ _ _)
   | (with_reducible exact LeO.refl _)
   | (with_reducible exact LeO.none _)
   | (with_reducible refine LeO.ite ?_ ?_)
   | (with_reducible refine LeO.bind ?_ (fun _ => ?_))
   | exact ih0 _ _ _ _
   | exact ih1 _ _ _ _ _
   | exact LeO.none _
   | refine LeO.ite ?_ ?_
   | refine LeO.bind ?_ (fun _ => ?_)
set_option maxHeartbeats 8000000 in
set_option maxRecDepth 100000 in
theorem stolelaw5_quiet.calls (k : Nat) (a0 : ByteArray) (a1 : Int) (r : ByteArray) (w : World) (h : stolelaw5_quiet.f k a0 a1 = some r) :
  Calls Tryd.prog 13 #[.string a0, .int .u8 a1] w fun e w' => e = .returned (.string r) ∧ Drawn0 w w' := by
 have H : (stolelaw5_quiet.l0 k a0 a1 (⟨#[]⟩ : ByteArray) 0) = some r := h
 clear h
 have H' := Aside0.mk H
 clear H
 go_enter Tryd.func13, Tryd.ntmps13
 go_wp2
 go_loopg [5, 6] k (fun kq v5 v6 w' => ∃ (x5_1 : ByteArray) (x6_1 : Int), v5 = .string x5_1 ∧ v6 = .int .i64 x6_1 ∧ Aside0 (stolelaw5_quiet.l0 kq a0 a1 x5_1 x6_1 = some r) ∧ Aside0 (kq ≤ k) ∧ Drawn0 w w')
 case atStart => exact ⟨((⟨#[]⟩ : ByteArray)), (0), (by first | rfl | (simp; done) | (simp [*]; done)), (by first | rfl | (simp; done) | (simp [*]; done)), H', ⟨Nat.le_refl _⟩, by repeat (first | exact Drawn0.refl _ | apply Drawn0.step)⟩
 case round =>
  clear H'
  try clear c1
  try clear p2
  obtain ⟨x5_1, x6_1, rfl, rfl, HA, HK1, ⟨m1, rfl⟩⟩ := hrel
  cases gk with
  | zero => exact absurd HA.out (by simp [stolelaw5_quiet.l0])
  | succ k1 =>
   have H := HA.out
   clear HA
   simp only [stolelaw5_quiet.l0] at H
   have HC3 := Aside0.mk H
   clear H
   go_upto_region 3 with (fail)
   go_cut [14] (fun v14 wc => ∃ (kq : Nat) (x14_2 : Bool), v14 = .bool x14_2 ∧ Aside0 (stolelaw5_quiet.j1 kq a0 a1 x5_1 x6_1 x14_2 = some r) ∧ Aside0 (kq ≤ k1) ∧ Drawn0 w wc)
   case first =>
    have H := HC3.out
    clear HC3
    by_cases c4 : x6_1 < (a0.size : Int)
    ·rw [if_pos c4] at H
     have c4b0 : decide (x6_1 < (a0.size : Int)) = true := decide_eq_true c4
     clear c4
     (first | rw [c4b0] | (simp only [i64_w, i32_w]; rw [c4b0]) | skip)
     have H' := Aside0.mk H
     clear H
     go_wp2
     go_meet
     case rel => exact ⟨_, (decide (x6_1 < 300)), (by first | rfl | (simp; done) | (simp [*]; done)), H', ⟨by have := HK1.out; first | omega | exact Nat.le_refl _⟩, by repeat (first | exact Drawn0.refl _ | apply Drawn0.step)⟩
    ·rw [if_neg c4] at H
     have c4b0 : decide (x6_1 < (a0.size : Int)) = false := decide_eq_false c4
     clear c4
     (first | rw [c4b0] | (simp only [i64_w, i32_w]; rw [c4b0]) | skip)
     have H' := Aside0.mk H
     clear H
     go_wp2
     go_meet
     case rel => exact ⟨_, (false), (by first | rfl | (simp; done) | (simp [*]; done)), H', ⟨by have := HK1.out; first | omega | exact Nat.le_refl _⟩, by repeat (first | exact Drawn0.refl _ | apply Drawn0.step)⟩
   case rest =>
    clear HC3
    try clear c1
    try clear p2
    try clear c4
    try clear c4b0
    try clear p2
    obtain ⟨kq, x14_2, rfl, HA, HJ2, ⟨mc2, rfl⟩⟩ := hcut
    cases kq with
    | zero => exact absurd HA.out (by simp [stolelaw5_quiet.j1])
    | succ kj2 =>
     have H := HA.out
     clear HA
     simp only [stolelaw5_quiet.j1] at H
     by_cases c5 : x14_2 = true
     ·subst c5
      have H1 : (if 0 ≤ x6_1 then (if x6_1 < (a0.size : Int) then (if (bt a0 x6_1) = 60 then (stolelaw5_quiet.l0 kj2 a0 a1 x5_1 (wrap64 (x6_1 + 1))) else (if (bt a0 x6_1) = 38 then (stolelaw5_quiet.l0 kj2 a0 a1 x5_1 (wrap64 (x6_1 + 1))) else (if (bt a0 x6_1) = 13 then (stolelaw5_quiet.l0 kj2 a0 a1 x5_1 (wrap64 (x6_1 + 1))) else (if (bt a0 x6_1) = a1 then (stolelaw5_quiet.l0 kj2 a0 a1 x5_1 (wrap64 (x6_1 + 1))) else (if x6_1 ≤ (wrap64 (x6_1 + 1)) then (if (wrap64 (x6_1 + 1)) ≤ (a0.size : Int) then (if x5_1.size + ((a0.extract (x6_1 : Int).toNat ((wrap64 (x6_1 + 1)) : Int).toNat).size) ≤ 9223372036854775807 then (stolelaw5_quiet.l0 kj2 a0 a1 (x5_1 ++ (a0.extract (x6_1 : Int).toNat ((wrap64 (x6_1 + 1)) : Int).toNat)) (wrap64 (x6_1 + 1))) else (none)) else (none)) else (none)))))) else (none)) else (none)) = some r := by rw [if_pos rfl] at H; exact H
      clear H
      have H := H1
      clear H1
      by_cases c6 : 0 ≤ x6_1
      ·rw [if_pos c6] at H
       have c6b0 : decide (0 ≤ x6_1) = true := decide_eq_true c6
       clear c6
       by_cases c7 : x6_1 < (a0.size : Int)
       ·rw [if_pos c7] at H
        have c7b0 : decide (x6_1 < (a0.size : Int)) = true := decide_eq_true c7
        clear c7
        by_cases c9 : (bt a0 x6_1) = 60
        ·rw [if_pos c9] at H
         have c9b0 : ((bt a0 x6_1) == 60) = true := beq_iff_eq.mpr c9
         have c9b1 : ((bt a0 x6_1) != 60) = false := bne_eq_false_iff_eq.mpr c9
         clear c9
         have H' := Aside0.mk H
         clear H
         have p8 : 0 ≤ (x6_1 : Int) := of_decide_eq_true (by first | (with_reducible assumption) | assumption)
         have q8 : x6_1 < (a0.size : Int) := of_decide_eq_true (by first | (with_reducible assumption) | assumption)
         have hx8 := bt_at a0 x6_1
         replace p8 := eq_true p8
         replace q8 := eq_true q8
         go_wp2
         go_roundg kj2
         case measure => have := HK1.out; have := HJ2.out; omega
         case rel => exact ⟨(x5_1), (wrap64 (x6_1 + 1)), (by first | rfl | (simp; done) | (simp [*]; done)), (by first | rfl | (simp; done) | (simp [*]; done)), H', ⟨by have := HK1.out; have := HJ2.out; omega⟩, by repeat (first | exact Drawn0.refl _ | apply Drawn0.step)⟩
        ·rw [if_neg c9] at H
         have c9b0 : ((bt a0 x6_1) == 60) = false := beq_eq_false_iff_ne.mpr c9
         have c9b1 : ((bt a0 x6_1) != 60) = true := bne_iff_ne.mpr c9
         by_cases c11 : (bt a0 x6_1) = 38
         ·rw [if_pos c11] at H
          have c11b0 : ((bt a0 x6_1) == 38) = true := beq_iff_eq.mpr c11
          have c11b1 : ((bt a0 x6_1) != 38) = false := bne_eq_false_iff_eq.mpr c11
          clear c11
          have H' := Aside0.mk H
          clear H
          have p8 : 0 ≤ (x6_1 : Int) := of_decide_eq_true (by first | (with_reducible assumption) | assumption)
          have q8 : x6_1 < (a0.size : Int) := of_decide_eq_true (by first | (with_reducible assumption) | assumption)
          have hx8 := bt_at a0 x6_1
          replace p8 := eq_true p8
          replace q8 := eq_true q8
          have p10 : 0 ≤ (x6_1 : Int) := of_decide_eq_true (by first | (with_reducible assumption) | assumption)
          have q10 : x6_1 < (a0.size : Int) := of_decide_eq_true (by first | (with_reducible assumption) | assumption)
          have hx10 := bt_at a0 x6_1
          replace p10 := eq_true p10
          replace q10 := eq_true q10
          go_wp2
          go_roundg kj2
          case measure => have := HK1.out; have := HJ2.out; omega
          case rel => exact ⟨(x5_1), (wrap64 (x6_1 + 1)), (by first | rfl | (simp; done) | (simp [*]; done)), (by first | rfl | (simp; done) | (simp [*]; done)), H', ⟨by have := HK1.out; have := HJ2.out; omega⟩, by repeat (first | exact Drawn0.refl _ | apply Drawn0.step)⟩
         ·rw [if_neg c11] at H
          have c11b0 : ((bt a0 x6_1) == 38) = false := beq_eq_false_iff_ne.mpr c11
          have c11b1 : ((bt a0 x6_1) != 38) = true := bne_iff_ne.mpr c11
          by_cases c13 : (bt a0 x6_1) = 13
          ·rw [if_pos c13] at H
           have c13b0 : ((bt a0 x6_1) == 13) = true := beq_iff_eq.mpr c13
           have c13b1 : ((bt a0 x6_1) != 13) = false := bne_eq_false_iff_eq.mpr c13
           clear c13
           have H' := Aside0.mk H
           clear H
           have p8 : 0 ≤ (x6_1 : Int) := of_decide_eq_true (by first | (with_reducible assumption) | assumption)
           have q8 : x6_1 < (a0.size : Int) := of_decide_eq_true (by first | (with_reducible assumption) | assumption)
           have hx8 := bt_at a0 x6_1
           replace p8 := eq_true p8
           replace q8 := eq_true q8
           have p10 : 0 ≤ (x6_1 : Int) := of_decide_eq_true (by first | (with_reducible assumption) | assumption)
           have q10 : x6_1 < (a0.size : Int) := of_decide_eq_true (by first | (with_reducible assumption) | assumption)
           have hx10 := bt_at a0 x6_1
           replace p10 := eq_true p10
           replace q10 := eq_true q10
           have p12 : 0 ≤ (x6_1 : Int) := of_decide_eq_true (by first | (with_reducible assumption) | assumption)
           have q12 : x6_1 < (a0.size : Int) := of_decide_eq_true (by first | (with_reducible assumption) | assumption)
           have hx12 := bt_at a0 x6_1
           replace p12 := eq_true p12
           replace q12 := eq_true q12
           go_wp2
           go_roundg kj2
           case measure => have := HK1.out; have := HJ2.out; omega
           case rel => exact ⟨(x5_1), (wrap64 (x6_1 + 1)), (by first | rfl | (simp; done) | (simp [*]; done)), (by first | rfl | (simp; done) | (simp [*]; done)), H', ⟨by have := HK1.out; have := HJ2.out; omega⟩, by repeat (first | exact Drawn0.refl _ | apply Drawn0.step)⟩
          ·rw [if_neg c13] at H
           have c13b0 : ((bt a0 x6_1) == 13) = false := beq_eq_false_iff_ne.mpr c13
           have c13b1 : ((bt a0 x6_1) != 13) = true := bne_iff_ne.mpr c13
           by_cases c15 : (bt a0 x6_1) = a1
           ·rw [if_pos c15] at H
            have c15b0 : ((bt a0 x6_1) == a1) = true := beq_iff_eq.mpr c15
            have c15b1 : ((bt a0 x6_1) != a1) = false := bne_eq_false_iff_eq.mpr c15
            clear c15
            have H' := Aside0.mk H
            clear H
            have p8 : 0 ≤ (x6_1 : Int) := of_decide_eq_true (by first | (with_reducible assumption) | assumption)
            have q8 : x6_1 < (a0.size : Int) := of_decide_eq_true (by first | (with_reducible assumption) | assumption)
            have hx8 := bt_at a0 x6_1
            replace p8 := eq_true p8
            replace q8 := eq_true q8
            have p10 : 0 ≤ (x6_1 : Int) := of_decide_eq_true (by first | (with_reducible assumption) | assumption)
            have q10 : x6_1 < (a0.size : Int) := of_decide_eq_true (by first | (with_reducible assumption) | assumption)
            have hx10 := bt_at a0 x6_1
            replace p10 := eq_true p10
            replace q10 := eq_true q10
            have p12 : 0 ≤ (x6_1 : Int) := of_decide_eq_true (by first | (with_reducible assumption) | assumption)
            have q12 : x6_1 < (a0.size : Int) := of_decide_eq_true (by first | (with_reducible assumption) | assumption)
            have hx12 := bt_at a0 x6_1
            replace p12 := eq_true p12
            replace q12 := eq_true q12
            have p14 : 0 ≤ (x6_1 : Int) := of_decide_eq_true (by first | (with_reducible assumption) | assumption)
            have q14 : x6_1 < (a0.size : Int) := of_decide_eq_true (by first | (with_reducible assumption) | assumption)
            have hx14 := bt_at a0 x6_1
            replace p14 := eq_true p14
            replace q14 := eq_true q14
            go_wp2
            go_roundg kj2
            case measure => have := HK1.out; have := HJ2.out; omega
            case rel => exact ⟨(x5_1), (wrap64 (x6_1 + 1)), (by first | rfl | (simp; done) | (simp [*]; done)), (by first | rfl | (simp; done) | (simp [*]; done)), H', ⟨by have := HK1.out; have := HJ2.out; omega⟩, by repeat (first | exact Drawn0.refl _ | apply Drawn0.step)⟩
           ·rw [if_neg c15] at H
            have c15b0 : ((bt a0 x6_1) == a1) = false := beq_eq_false_iff_ne.mpr c15
            have c15b1 : ((bt a0 x6_1) != a1) = true := bne_iff_ne.mpr c15
            have c16b0 := eq_true (of_decide_eq_true (by first | (with_reducible assumption) | assumption) : 0 ≤ x6_1)
            by_cases c17 : x6_1 ≤ (wrap64 (x6_1 + 1))
            ·rw [if_pos c17] at H
             have c17b0 := eq_true c17
             have c17b1 : decide (x6_1 ≤ (wrap64 (x6_1 + 1))) = true := decide_eq_true c17
             by_cases c18 : (wrap64 (x6_1 + 1)) ≤ (a0.size : Int)
             ·rw [if_pos c18] at H
              have c18b0 := eq_true c18
              have c18b1 : decide ((wrap64 (x6_1 + 1)) ≤ (a0.size : Int)) = true := decide_eq_true c18
              by_cases c19 : x5_1.size + ((a0.extract (x6_1 : Int).toNat ((wrap64 (x6_1 + 1)) : Int).toNat).size) ≤ 9223372036854775807
              ·rw [if_pos c19] at H
               have c19b0 := eq_true c19
               have c19b1 : decide (x5_1.size + ((a0.extract (x6_1 : Int).toNat ((wrap64 (x6_1 + 1)) : Int).toNat).size) ≤ 9223372036854775807) = true := decide_eq_true c19
               try have c19b2 : (9223372036854775807 < x5_1.size + ((a0.extract (x6_1 : Int).toNat ((wrap64 (x6_1 + 1)) : Int).toNat).size)) = False := eq_false (Nat.not_lt.2 c19)
               have H' := Aside0.mk H
               clear H
               have p8 : 0 ≤ (x6_1 : Int) := of_decide_eq_true (by first | (with_reducible assumption) | assumption)
               have q8 : x6_1 < (a0.size : Int) := of_decide_eq_true (by first | (with_reducible assumption) | assumption)
               have hx8 := bt_at a0 x6_1
               replace p8 := eq_true p8
               replace q8 := eq_true q8
               have p10 : 0 ≤ (x6_1 : Int) := of_decide_eq_true (by first | (with_reducible assumption) | assumption)
               have q10 : x6_1 < (a0.size : Int) := of_decide_eq_true (by first | (with_reducible assumption) | assumption)
               have hx10 := bt_at a0 x6_1
               replace p10 := eq_true p10
               replace q10 := eq_true q10
               have p12 : 0 ≤ (x6_1 : Int) := of_decide_eq_true (by first | (with_reducible assumption) | assumption)
               have q12 : x6_1 < (a0.size : Int) := of_decide_eq_true (by first | (with_reducible assumption) | assumption)
               have hx12 := bt_at a0 x6_1
               replace p12 := eq_true p12
               replace q12 := eq_true q12
               have p14 : 0 ≤ (x6_1 : Int) := of_decide_eq_true (by first | (with_reducible assumption) | assumption)
               have q14 : x6_1 < (a0.size : Int) := of_decide_eq_true (by first | (with_reducible assumption) | assumption)
               have hx14 := bt_at a0 x6_1
               replace p14 := eq_true p14
               replace q14 := eq_true q14
               go_wp2
               go_roundg kj2
               case measure => have := HK1.out; have := HJ2.out; omega
               case rel => exact ⟨(x5_1 ++ (a0.extract (x6_1 : Int).toNat ((wrap64 (x6_1 + 1)) : Int).toNat)), (wrap64 (x6_1 + 1)), (by first | rfl | (simp; done) | (simp [*]; done)), (by first | rfl | (simp; done) | (simp [*]; done)), H', ⟨by have := HK1.out; have := HJ2.out; omega⟩, by repeat (first | exact Drawn0.refl _ | apply Drawn0.step)⟩
              ·rw [if_neg c19] at H
               exact absurd H (by simp)
             ·rw [if_neg c18] at H
              exact absurd H (by simp)
            ·rw [if_neg c17] at H
             exact absurd H (by simp)
       ·rw [if_neg c7] at H
        exact absurd H (by simp)
      ·rw [if_neg c6] at H
       exact absurd H (by simp)
     ·replace c5 := Bool.eq_false_iff.mpr c5
      subst c5
      have H1 : (some x5_1) = some r := by rw [if_neg (show ¬ (false = true) by decide)] at H; exact H
      clear H
      have H := H1
      clear H1
      obtain rfl := Option.some.inj H
      go_wp2
      go_ret
      exact ⟨by first | rfl | (simp; done) | (simp [*]; done), by repeat (first | exact Drawn0.refl _ | apply Drawn0.step)⟩
-- NOT PRINTED: function 4 (stolelaw5_TokenHeld)
-- NOT PRINTED: function 5 (stolelaw5_TokenComments)
-- NOT PRINTED: function 6 (stolelaw5_TokenHalf)
-- NOT PRINTED: function 7 (stolelaw5_StepStays)
end Go.Proofs.YtgbaakopneldaaaDoor.XK
end
section
namespace Go.Proofs.YtgbaakopneldaaaDoor.Base
open Go.RowKit Go.Proofs.YtgbaakopneldaaaDoorW.PrintWords Go.Proofs.YtgbaakopneldaaaDoorW.PrintLast Go.Proofs.YtgbaakopneldaaaDoorW.PrintMore
section
variable {α β : Type} {r : α} {s : β}
theorem Ev.pos {c : Prop} [Decidable c] {a b : Nat → Option α} (h : c) (H : Ev a r) : Ev (fun k => if c then a k else b k) r := by
  simpa only [if_pos h] using H
theorem Ev.neg {c : Prop} [Decidable c] {a b : Nat → Option α} (h : ¬ c) (H : Ev b r) : Ev (fun k => if c then a k else b k) r := by
  simpa only [if_neg h] using H
theorem Ev.bindC {o : Option β} {f : Nat → β → Option α} (h : o = some s) (H : Ev (fun k => f k s) r) : Ev (fun k => o.bind (f k)) r := by
  subst h; exact H
theorem Ev.cast {g : Nat → Option α} {r' : α} (H : Ev g r) (h : r = r') : Ev g r' := h ▸ H
end
theorem bt_list (s : ByteArray) (i : Nat) (h : i < s.size) : bt s (i : Int) = (((s.data.toList.getD i 0).toNat : Nat) : Int) := by
  have hl : i < s.data.toList.length := by rw [data_length]; exact h
  simp only [bt, Int.toNat_natCast, h, dite_true, List.getD_eq_getElem?_getD, List.getElem?_eq_getElem hl, Option.getD_some, Array.getElem_toList]
  rfl
theorem wrap_next {i n : Nat} (h : i < n) (hn : n ≤ 4611686018427387904) : wrap64 ((i : Int) + 1) = ((i + 1 : Nat) : Int) := by
  unfold wrap64; omega
theorem size_append (a b : ByteArray) : (a ++ b).size = a.size + b.size := ByteArray.size_append
theorem data_append (a b : ByteArray) : (a ++ b).data.toList = a.data.toList ++ b.data.toList := by
  rw [ByteArray.data_append, Array.toList_append]
theorem ext_list {a b : ByteArray} (h : a.data.toList = b.data.toList) : a = b := by
  rcases a with ⟨⟨a⟩⟩; rcases b with ⟨⟨b⟩⟩; simp only at h; rw [h]
theorem list_eq (a : ByteArray) : a.toList = a.data.toList := ByteArray.toList_eq a
end Go.Proofs.YtgbaakopneldaaaDoor.Base
end
section
namespace Go.Proofs.YtgbaakopneldaaaDoor.Tk
open Go.RowKit Go.Proofs.YtgbaakopneldaaaDoorW.PrintWords Go.Proofs.YtgbaakopneldaaaDoorW.PrintLast Go.Proofs.YtgbaakopneldaaaDoorW.PrintMore
open Go.Proofs.YtgbaakopneldaaaDoor.XK (elem_Kind.f elem_Kind.j0 elem_Kind.j1 elem_Kind.calls)
open Go.Proofs.YtgbaakopneldaaaDoor.Refs (lowN lowByte_calls)
attribute [local go_sem ↓] Go.wp_at_zero Go.wp_at_succ
set_option linter.unusedVariables false
set_option linter.unusedSimpArgs false
set_option maxRecDepth 100000
def letN (c : Nat) : Bool := decide (97 ≤ lowN c) && decide (lowN c ≤ 122)
set_option maxHeartbeats 1600000 in
theorem letter_calls (c : Nat) (w : World) : Calls Tryd.prog 52 #[.int .u8 c] w fun e w' => e = .returned (.bool (letN c)) ∧ w = w' := by
  have HL := Aside0.mk (fun w => lowByte_calls c w)
  obtain ⟨m, hm⟩ : ∃ m, lowN c = m := ⟨_, rfl⟩
  rw [hm] at HL
  unfold letN
  rw [hm]
  clear hm
  by_cases h1 : 97 ≤ m
  · have d1 : decide ((97 : Int) ≤ (m : Int)) = true := decide_eq_true (by omega)
    have e1 : decide (97 ≤ m) = true := decide_eq_true h1
    rw [e1, Bool.true_and]
    by_cases h2 : m ≤ 122
    · have d2 : decide ((m : Int) ≤ 122) = true := decide_eq_true (by omega)
      have e2 : decide (m ≤ 122) = true := decide_eq_true h2
      rw [e2]
      clear h1 h2 e1 e2
      go_enter Tryd.func52, Tryd.ntmps52
      go_wp2_with (go_at_call 71; refine (HL.out _).mono ?_; rintro e w2 ⟨rfl, rfl⟩)
      go_ret
      exact ⟨rfl, rfl⟩
    · have d2 : decide ((m : Int) ≤ 122) = false := decide_eq_false (by omega)
      have e2 : decide (m ≤ 122) = false := decide_eq_false h2
      rw [e2]
      clear h1 h2 e1 e2
      go_enter Tryd.func52, Tryd.ntmps52
      go_wp2_with (go_at_call 71; refine (HL.out _).mono ?_; rintro e w2 ⟨rfl, rfl⟩)
      go_ret
      exact ⟨rfl, rfl⟩
  · have d1 : decide ((97 : Int) ≤ (m : Int)) = false := decide_eq_false (by omega)
    have e1 : decide (97 ≤ m) = false := decide_eq_false h1
    rw [e1, Bool.false_and]
    clear h1 e1
    go_enter Tryd.func52, Tryd.ntmps52
    go_wp2_with (go_at_call 71; refine (HL.out _).mono ?_; rintro e w2 ⟨rfl, rfl⟩)
    go_ret
    exact ⟨rfl, rfl⟩
def blankN (c : Nat) : Bool := c == 32 || (decide (9 ≤ c) && (decide (c ≤ 13) && c != 11))
set_option maxHeartbeats 1600000 in
theorem blank_calls (c : Nat) (w : World) : Calls Tryd.prog 57 #[.int .u8 c] w fun e w' => e = .returned (.bool (blankN c)) ∧ w = w' := by
  unfold blankN
  by_cases h1 : c = 32
  · subst h1
    go_enter Tryd.func57, Tryd.ntmps57
    go_wp2
    go_ret
    exact ⟨rfl, rfl⟩
  have d1 : ((c : Int) == 32) = false := by rw [beq_eq_false_iff_ne]; omega
  have e1 : (c == 32) = false := by simpa using h1
  rw [e1, Bool.false_or]
  by_cases h2 : 9 ≤ c
  · have d2 : decide ((9 : Int) ≤ (c : Int)) = true := decide_eq_true (by omega)
    rw [decide_eq_true h2, Bool.true_and]
    by_cases h3 : c ≤ 13
    · have d3 : decide ((c : Int) ≤ 13) = true := decide_eq_true (by omega)
      rw [decide_eq_true h3, Bool.true_and]
      have e4 : ((c : Int) != 11) = (c != 11) := by
        by_cases h4 : c = 11
        · subst h4; rfl
        · rw [show (c != 11) = true by simpa using h4, bne_iff_ne]; omega
      have E4 := Aside0.mk e4
      clear h1 h2 h3 e1 e4
      go_enter Tryd.func57, Tryd.ntmps57
      go_wp2
      go_ret
      exact ⟨by first | rfl | (rw [E4.out]; rfl), rfl⟩
    · have d3 : decide ((c : Int) ≤ 13) = false := decide_eq_false (by omega)
      rw [decide_eq_false h3, Bool.false_and]
      clear h1 h2 h3 e1
      go_enter Tryd.func57, Tryd.ntmps57
      go_wp2
      go_ret
      exact ⟨rfl, rfl⟩
  · have d2 : decide ((9 : Int) ≤ (c : Int)) = false := decide_eq_false (by omega)
    rw [decide_eq_false h2, Bool.false_and]
    clear h1 h2 e1
    go_enter Tryd.func57, Tryd.ntmps57
    go_wp2
    go_ret
    exact ⟨rfl, rfl⟩
theorem ex_ite {α : Type} {c : Prop} [Decidable c] {a b : Option α} (h1 : ∃ v, a = some v) (h2 : ∃ v, b = some v) : ∃ v, (if c then a else b) = some v := by
  by_cases h : c
  · rw [if_pos h]; exact h1
  · rw [if_neg h]; exact h2
theorem kind_some (s : ByteArray) : ∃ v, elem_Kind.f 3 s = some v := by
  unfold elem_Kind.f
  simp only [elem_Kind.j0, elem_Kind.j1]
  repeat' first | exact ⟨_, rfl⟩ | refine ex_ite ?_ ?_
def kindOf (s : ByteArray) : Int := (elem_Kind.f 3 s).getD 0
theorem kind_def (s : ByteArray) : elem_Kind.f 3 s = some (kindOf s) := by
  obtain ⟨v, hv⟩ := kind_some s
  unfold kindOf; rw [hv]; rfl
theorem kind_calls (s : ByteArray) (w : World) : Calls Tryd.prog 69 #[.string s] w fun e w' => e = .returned (.int .i64 (kindOf s)) ∧ Drawn0 w w' := elem_Kind.calls 3 s _ w (kind_def s)
theorem one_string (w : World) (m : Nat) (hm : m < 256) : (convert 42 9 (.slice (some ⟨w.heap.size, 0, none⟩) 1 1)).run Tryd.prog (w.alloc (.cells #[.int .u8 (m : Int)] 5)) = .ok (.string ⟨#[UInt8.ofNat m]⟩) (w.alloc (.cells #[.int .u8 (m : Int)] 5)) := by
  have h := run_convert_bytes_arg (P := Tryd.prog) (w.alloc (.cells #[.int .u8 (m : Int)] 5)) 42 5 Tryd.underlying42 Tryd.underlying5 w.heap.size 0 1 1 [(m : Int)] rfl (fun i hi => by
    obtain rfl : i = 0 := by omega
    exact (blk_cell (heap_alloc_new w _) 0).trans rfl) 9 Tryd.underlying9
  rw [h]
  have e : strOfNums [(m : Int)] = ⟨#[UInt8.ofNat m]⟩ := by
    have e2 := strOfNums_data [(m : Int)]
    exact Go.Proofs.YtgbaakopneldaaaDoor.Base.ext_list (by rw [e2]; rfl)
  rw [e]
def moreS (nm : ByteArray) (c : Nat) : ByteArray := if 32 ≤ nm.size then nm else nm ++ ⟨#[UInt8.ofNat (lowN c)]⟩
set_option maxHeartbeats 1600000 in
theorem more_calls (nm : ByteArray) (c : Nat) (w : World) (hc : c < 256) : Calls Tryd.prog 53 #[.string nm, .int .u8 c] w fun e w' => e = .returned (.string (moreS nm c)) ∧ Below w.heap.size w w' := by
  by_cases h1 : 32 ≤ nm.size
  · have d1 : decide ((32 : Int) ≤ (nm.size : Int)) = true := decide_eq_true (by omega)
    have HM := Aside0.mk (show moreS nm c = nm by unfold moreS; rw [if_pos h1])
    clear h1
    go_enter Tryd.func53, Tryd.ntmps53
    go_wp2
    go_ret
    exact ⟨by rw [HM.out]; rfl, Below.refl _ _⟩
  · have d1 : decide ((32 : Int) ≤ (nm.size : Int)) = false := decide_eq_false (by omega)
    have hl : lowN c < 256 := by unfold lowN; split <;> omega
    have hs : nm.size + 1 ≤ 9223372036854775807 := by omega
    have HM := Aside0.mk (show moreS nm c = nm ++ ⟨#[UInt8.ofNat (lowN c)]⟩ by unfold moreS; rw [if_neg h1])
    have HL := Aside0.mk (fun w => lowByte_calls c w)
    obtain ⟨m, hm⟩ : ∃ m, lowN c = m := ⟨_, rfl⟩
    rw [hm] at HL HM hl
    have HLt := Aside0.mk hl
    have hcv := one_string w m hl
    clear h1 hm hl hc
    go_enter Tryd.func53, Tryd.ntmps53
    go_wp2_with (go_at_call 71; refine (HL.out _).mono ?_; rintro e w2 ⟨rfl, rfl⟩)
    go_ret
    exact ⟨by rw [HM.out]; rfl, (Below.refl _ _).alloc (Nat.le_refl _) _⟩
end Go.Proofs.YtgbaakopneldaaaDoor.Tk
end
