/- The law stole/stolelaw5.TokenTexts returns true at every input of its types, and its arguments read behind the call as before. The listed package-level variables are tied to the program's text. No further condition. TokenTexts, plain. Laid by xprint.py, a program of this session over the kit's print: for each Go function one Lean function of the same answers, and the walk that shows it. -/
import Derived.Test.YtgbaakopneldaaaDoorM15
import Derived.Test.YtgbaakopneldaaaDoorM16
import Derived.Test.YtgbaakopneldaaaDoorM17
import Derived.Test.YtgbaakopneldaaaDoorCards
import Derived.Test.YtgbaakopneldaaaDoorTie
import Derived.Test.YtgbaakopneldaaaDoorM0
import Derived.Test.YtgbaakopneldaaaDoorM14
import Derived.WalkKit
import Derived.ProofKit
import Derived.OpenShut
import Derived.ShutString
import Derived.ChangeOld
import Derived.Below
import Derived.SizedLaws
import Derived.Deep.DeepHandedRow
import Derived.LaidMore
import Derived.Lay
import Derived.SevenTiedAt
section
namespace Go.Proofs.YtgbaakopneldaaaDoor.XL
open Go.RowKit Go.Proofs.YtgbaakopneldaaaDoor.ExtM Go.Proofs.YtgbaakopneldaaaDoor.XK Go.Proofs.YtgbaakopneldaaaDoorW.PrintWords Go.Proofs.YtgbaakopneldaaaDoorW.PrintLast Go.Proofs.YtgbaakopneldaaaDoorW.PrintMore
attribute [local go_sem] max2_int min2_int max_two min_two max_three min_three max_four min_four   -- for this text's walks alone
set_option linter.unusedVariables false
set_option linter.unusedSimpArgs false
/-! ### stolelaw5_TokenTexts: function 3 -/
mutual
def stolelaw5_TokenTexts.l0 : Nat → ByteArray → List (S30) → Bool → Int → Option (Bool)
 | 0, _, _, _, _ => none
 | k + 1, x0, x3, x5, x6 => if x6 < (x0.size : Int) then (if x5 = true then (if 0 ≤ x6 then (if (bt x0 x6) = 60 then (stolelaw5_TokenTexts.l0 k x0 x3 false (wrap64 (x6 + 1))) else (if (bt x0 x6) = 38 then (stolelaw5_TokenTexts.l0 k x0 x3 false (wrap64 (x6 + 1))) else (stolelaw5_TokenTexts.l0 k x0 x3 ((bt x0 x6) != 13) (wrap64 (x6 + 1))))) else (none)) else (stolelaw5_TokenTexts.l0 k x0 x3 false (wrap64 (x6 + 1)))) else (stolelaw5_TokenTexts.l1 k x0 x3 x5 0)
def stolelaw5_TokenTexts.l1 : Nat → ByteArray → List (S30) → Bool → Int → Option (Bool)
 | 0, _, _, _, _ => none
 | k + 1, x0, x3, x5, x7 => if x7 < (x3.length : Int) then (if x7 > 0 then (if 0 ≤ x7 then (if ((rd_T30 x3 x7).f0) = 0 then (if 0 ≤ (wrap64 (x7 - 1)) then (if (wrap64 (x7 - 1)) < (x3.length : Int) then (if ((rd_T30 x3 (wrap64 (x7 - 1))).f0) = 0 then (some false) else (if ((rd_T30 x3 x7).f2).toList = ([] : List UInt8) then (some false) else (stolelaw5_TokenTexts.l1 k x0 x3 x5 (wrap64 (x7 + 1))))) else (none)) else (none)) else (stolelaw5_TokenTexts.l1 k x0 x3 x5 (wrap64 (x7 + 1)))) else (none)) else (if 0 ≤ x7 then (if ((rd_T30 x3 x7).f0) = 0 then (if ((rd_T30 x3 x7).f2).toList = ([] : List UInt8) then (some false) else (stolelaw5_TokenTexts.l1 k x0 x3 x5 (wrap64 (x7 + 1)))) else (stolelaw5_TokenTexts.l1 k x0 x3 x5 (wrap64 (x7 + 1)))) else (none))) else (if x5 = true then (if x0.toList = ([] : List UInt8) then (if (x3.length : Int) = 0 then (some true) else (if (x3.length : Int) = 1 then (if 0 < (x3.length : Int) then (if ((rd_T30 x3 0).f0) = 0 then (some (((rd_T30 x3 0).f2).toList == x0.toList)) else (some false)) else (none)) else (some false))) else (if (x3.length : Int) = 1 then (if 0 < (x3.length : Int) then (if ((rd_T30 x3 0).f0) = 0 then (some (((rd_T30 x3 0).f2).toList == x0.toList)) else (some false)) else (none)) else (some false))) else (some true))
end
def stolelaw5_TokenTexts.f (k : Nat) (a0 : ByteArray) : Option (Bool) := (stolelaw5_awake.f k).bind fun t147 => (if t147 = true then ((tok_Tokens.f a0).bind fun bt148 => ((stolelaw0_Num.f bt148.2).bind fun t152 => (if t152 = 0 then (stolelaw5_TokenTexts.l0 k a0 bt148.1 true 0) else (some (decide ((a0.size : Int) > 65536)))))) else (some false))
theorem stolelaw5_TokenTexts.mono_l : ∀ k, (∀ y0 y1 y2 y3, LeO (stolelaw5_TokenTexts.l0 k y0 y1 y2 y3) (stolelaw5_TokenTexts.l0 (k + 1) y0 y1 y2 y3)) ∧ (∀ y0 y1 y2 y3, LeO (stolelaw5_TokenTexts.l1 k y0 y1 y2 y3) (stolelaw5_TokenTexts.l1 (k + 1) y0 y1 y2 y3))
 | 0 => ⟨fun _ _ _ _ r h => by simp [stolelaw5_TokenTexts.l0] at h, fun _ _ _ _ r h => by simp [stolelaw5_TokenTexts.l1] at h⟩
 | k + 1 => by
  obtain ⟨ih0, ih1⟩ := stolelaw5_TokenTexts.mono_l k
  refine ⟨?_, ?_⟩
  ·intro y0 y1 y2 y3
   unfold stolelaw5_TokenTexts.l0
   repeat' first
   | (with_reducible exact ih0 _ _ _ _)
   | (with_reducible exact ih1 _ _ _ _)
   | (with_reducible exact stolelaw5_awake.mono _)
   | (with_reducible exact LeO.refl _)
   | (with_reducible exact LeO.none _)
   | (with_reducible refine LeO.ite ?_ ?_)
   | (with_reducible refine LeO.bind ?_ (fun _ => ?_))
   | exact ih0 _ _ _ _
   | exact ih1 _ _ _ _
   | exact stolelaw5_awake.mono _
   | exact LeO.none _
   | refine LeO.ite ?_ ?_
   | refine LeO.bind ?_ (fun _ => ?_)
  ·intro y0 y1 y2 y3
   unfold stolelaw5_TokenTexts.l1
   repeat' first
   | (with_reducible exact ih0 _ _ _ _)
   | (with_reducible exact ih1 _ _ _ _)
   | (with_reducible exact stolelaw5_awake.mono _)
   | (with_reducible exact LeO.refl _)
   | (with_reducible exact LeO.none _)
   | (with_reducible refine LeO.ite ?_ ?_)
   | (with_reducible refine LeO.bind ?_ (fun _ => ?_))
   | exact ih0 _ _ _ _
   | exact ih1 _ _ _ _
   | exact stolelaw5_awake.mono _
   | exact LeO.none _
   | refine LeO.ite ?_ ?_
   | refine LeO.bind ?_ (fun _ => ?_)
theorem stolelaw5_TokenTexts.mono : ∀ a0 k, LeO (stolelaw5_TokenTexts.f k a0) (stolelaw5_TokenTexts.f (k + 1) a0) := by
 intro a0 k
 obtain ⟨ih0, ih1⟩ := stolelaw5_TokenTexts.mono_l k
 unfold stolelaw5_TokenTexts.f
 repeat' first
   | (with_reducible exact ih0 _ _ _ _)
   | (with_reducible exact ih1 _ _ _ _)
   | (with_reducible exact stolelaw5_awake.mono _)
   | (with_reducible exact LeO.refl _)
   | (with_reducible exact LeO.none _)
   | (with_reducible refine LeO.ite ?_ ?_)
   | (with_reducible refine LeO.bind ?_ (fun _ => ?_))
   | exact ih0 _ _ _ _
   | exact ih1 _ _ _ _
   | exact stolelaw5_awake.mono _
   | exact LeO.none _
   | refine LeO.ite ?_ ?_
   | refine LeO.bind ?_ (fun _ => ?_)
set_option maxHeartbeats 8000000 in
set_option maxRecDepth 100000 in
theorem stolelaw5_TokenTexts.calls (k : Nat) (a0 : ByteArray) (r : Bool) (w : World) (hT : Tabs w) (h : stolelaw5_TokenTexts.f k a0 = some r) (hr : r = true) :
  Calls Tryd.prog 3 #[.string a0] w fun e w' => e = .returned (.bool r) ∧ Below w.heap.size w w' := by
 have HT := Aside0.mk hT
 clear hT
 have HB := Aside0.mk (Below.refl w.heap.size w)
 have H : ((stolelaw5_awake.f k).bind fun t147 => (if t147 = true then ((tok_Tokens.f a0).bind fun bt148 => ((stolelaw0_Num.f bt148.2).bind fun t152 => (if t152 = 0 then (stolelaw5_TokenTexts.l0 k a0 bt148.1 true 0) else (some (decide ((a0.size : Int) > 65536)))))) else (some false))) = some r := h
 clear h
 replace H := Option.bind_eq_some_iff.mp H
 obtain ⟨t147, A20, H⟩ := H
 replace H : (if t147 = true then ((tok_Tokens.f a0).bind fun bt148 => ((stolelaw0_Num.f bt148.2).bind fun t152 => (if t152 = 0 then (stolelaw5_TokenTexts.l0 k a0 bt148.1 true 0) else (some (decide ((a0.size : Int) > 65536)))))) else (some false)) = some r := H
 have A2 := Aside0.mk A20
 clear A20
 by_cases c3 : t147 = true
 ·subst c3
  have H1 : ((tok_Tokens.f a0).bind fun bt148 => ((stolelaw0_Num.f bt148.2).bind fun t152 => (if t152 = 0 then (stolelaw5_TokenTexts.l0 k a0 bt148.1 true 0) else (some (decide ((a0.size : Int) > 65536)))))) = some r := by rw [if_pos rfl] at H; exact H
  clear H
  have H := H1
  clear H1
  replace H := Option.bind_eq_some_iff.mp H
  obtain ⟨⟨t148, t149⟩, A40, H⟩ := H
  replace H : ((stolelaw0_Num.f t149).bind fun t152 => (if t152 = 0 then (stolelaw5_TokenTexts.l0 k a0 t148 true 0) else (some (decide ((a0.size : Int) > 65536))))) = some r := H
  have A4 := Aside0.mk A40
  clear A40
  replace H := Option.bind_eq_some_iff.mp H
  obtain ⟨t152, A50, H⟩ := H
  replace H : (if t152 = 0 then (stolelaw5_TokenTexts.l0 k a0 t148 true 0) else (some (decide ((a0.size : Int) > 65536)))) = some r := H
  have A5 := Aside0.mk A50
  clear A50
  by_cases c6 : t152 = 0
  ·rw [if_pos c6] at H
   have c6b0 : (t152 == 0) = true := beq_iff_eq.mpr c6
   have c6b1 : (t152 != 0) = false := bne_eq_false_iff_eq.mpr c6
   clear c6
   have H' := Aside0.mk H
   clear H
   go_enter Tryd.func3, Tryd.ntmps3
   go_wp2_with (first | ((with_reducible refine gate_callee (f := 10) rfl ?_); refine goesL_ (some 8) rfl rfl Tryd.func10 (by kernel_rfl) rfl #[] rfl (by (try simp only [List.map_toArray, List.map_cons, List.map_nil]); first | done | rfl | (simp only [List.length_drop, List.length_take]; rfl)) ?_; (with_reducible refine (stolelaw5_awake.calls k  true _ (tabs_below HT.out (by repeat (first | (with_reducible first | exact HB.out | apply below_alloc | apply pw_below_drewN | apply below_drew1) | exact HB.out))) A2.out rfl).mono ?_); rintro e w7 ⟨rfl, hb⟩; refine ⟨_, rfl, ?_⟩; have n0_ := Aside0.mk (below_step (by repeat (first | (with_reducible first | exact HB.out | apply below_alloc | apply pw_below_drewN | apply below_drew1) | exact HB.out)) hb); clear HB; have HB := n0_; clear n0_; (try clear hb); (try clear hb2); (try clear hk); (try clear hi)) | ((with_reducible refine gate_callee (f := 11) rfl ?_); refine goesL_ (some 12) rfl rfl Tryd.func11 (by kernel_rfl) rfl #[.string a0] rfl (by (try simp only [List.map_toArray, List.map_cons, List.map_nil]); first | done | rfl | (simp only [List.length_drop, List.length_take]; rfl)) ?_; (with_reducible refine (tok_Tokens.calls a0 t148 t149 _ (tabs_below HT.out (by repeat (first | (with_reducible first | exact HB.out | apply below_alloc | apply pw_below_drewN | apply below_drew1) | exact HB.out))) A4.out).mono ?_); rintro e w8 ⟨v150, rfl, ho0, hb⟩; refine ⟨_, rfl, ?_⟩; have n0_ := Aside0.mk (Kd.S_lower ho0 (below_size (by repeat (first | (with_reducible first | exact HB.out | apply below_alloc | apply pw_below_drewN | apply below_drew1) | exact HB.out)))); have n1_ := Aside0.mk (below_step (by repeat (first | (with_reducible first | exact HB.out | apply below_alloc | apply pw_below_drewN | apply below_drew1) | exact HB.out)) hb); clear HB; have HO151 := n0_; have HB := n1_; clear n0_ n1_; (try clear hb); (try clear hb2); (try clear hk); (try clear hi); (try clear ho0)) | ((with_reducible refine gate_callee (f := 12) rfl ?_); refine goesL_ (some 16) rfl rfl Tryd.func12 (by kernel_rfl) rfl #[.int .i64 t149] rfl (by (try simp only [List.map_toArray, List.map_cons, List.map_nil]); first | done | rfl | (simp only [List.length_drop, List.length_take]; rfl)) ?_; (with_reducible refine (stolelaw0_Num.calls t149 t152 _ A5.out).mono ?_); rintro e w' ⟨rfl, ⟨nd, rfl⟩⟩; refine ⟨_, rfl, ?_⟩))
   go_loopg [5, 6] k (fun kq v5 v6 w' => ∃ (x5_1 : Bool) (x6_1 : Int), v5 = .bool x5_1 ∧ v6 = .int .i64 x6_1 ∧ Aside0 (stolelaw5_TokenTexts.l0 kq a0 t148 x5_1 x6_1 = some r) ∧ Aside0 (kq ≤ k) ∧ Aside0 (Kd.S k30 30 w' w.heap.size (fun _ => True) v150 t148) ∧ Aside0 (Below w.heap.size w w'))
   case atStart => exact ⟨(true), (0), (by first | rfl | (simp; done) | (simp [*]; done)), (by first | rfl | (simp; done) | (simp [*]; done)), H', ⟨Nat.le_refl _⟩, ⟨by (with_reducible repeat (first | apply Kd.S_alloc | apply Kd.S_drewN | apply Kd.S_drew)); exact HO151.out⟩, ⟨by repeat (first | (with_reducible first | exact HB.out | apply below_alloc | apply pw_below_drewN | apply below_drew1) | exact HB.out)⟩⟩
   case round =>
    clear H'
    try clear c1
    try clear p2
    try clear c3
    try clear c6
    try clear c6b0
    try clear c6b1
    obtain ⟨x5_1, x6_1, rfl, rfl, HA, HK1, HO_3, HB⟩ := hrel
    cases gk with
    | zero => exact absurd HA.out (by simp [stolelaw5_TokenTexts.l0])
    | succ k1 =>
     have H := HA.out
     clear HA
     simp only [stolelaw5_TokenTexts.l0] at H
     by_cases c9 : x6_1 < (a0.size : Int)
     ·rw [if_pos c9] at H
      have c9b0 : decide (x6_1 < (a0.size : Int)) = true := decide_eq_true c9
      clear c9
      by_cases c10 : x5_1 = true
      ·subst c10
       have H1 : (if 0 ≤ x6_1 then (if (bt a0 x6_1) = 60 then (stolelaw5_TokenTexts.l0 k1 a0 t148 false (wrap64 (x6_1 + 1))) else (if (bt a0 x6_1) = 38 then (stolelaw5_TokenTexts.l0 k1 a0 t148 false (wrap64 (x6_1 + 1))) else (stolelaw5_TokenTexts.l0 k1 a0 t148 ((bt a0 x6_1) != 13) (wrap64 (x6_1 + 1))))) else (none)) = some r := by rw [if_pos rfl] at H; exact H
       clear H
       have H := H1
       clear H1
       by_cases c11 : 0 ≤ x6_1
       ·rw [if_pos c11] at H
        have c11b0 : decide (0 ≤ x6_1) = true := decide_eq_true c11
        clear c11
        by_cases c13 : (bt a0 x6_1) = 60
        ·rw [if_pos c13] at H
         have c13b0 : ((bt a0 x6_1) == 60) = true := beq_iff_eq.mpr c13
         have c13b1 : ((bt a0 x6_1) != 60) = false := bne_eq_false_iff_eq.mpr c13
         clear c13
         have H' := Aside0.mk H
         clear H
         have p12 : 0 ≤ (x6_1 : Int) := of_decide_eq_true (by first | (with_reducible assumption) | assumption)
         have q12 : x6_1 < (a0.size : Int) := of_decide_eq_true (by first | (with_reducible assumption) | assumption)
         have hx12 := bt_at a0 x6_1
         replace p12 := eq_true p12
         replace q12 := eq_true q12
         go_wp2
         go_roundg k1
         case measure => have := HK1.out; omega
         case rel => exact ⟨(false), (wrap64 (x6_1 + 1)), (by first | rfl | (simp; done) | (simp [*]; done)), (by first | rfl | (simp; done) | (simp [*]; done)), H', ⟨by have := HK1.out; omega⟩, ⟨by (with_reducible repeat (first | apply Kd.S_alloc | apply Kd.S_drewN | apply Kd.S_drew)); exact HO_3.out⟩, ⟨by repeat (first | (with_reducible first | exact HB.out | apply below_alloc | apply pw_below_drewN | apply below_drew1) | exact HB.out)⟩⟩
        ·rw [if_neg c13] at H
         have c13b0 : ((bt a0 x6_1) == 60) = false := beq_eq_false_iff_ne.mpr c13
         have c13b1 : ((bt a0 x6_1) != 60) = true := bne_iff_ne.mpr c13
         by_cases c15 : (bt a0 x6_1) = 38
         ·rw [if_pos c15] at H
          have c15b0 : ((bt a0 x6_1) == 38) = true := beq_iff_eq.mpr c15
          have c15b1 : ((bt a0 x6_1) != 38) = false := bne_eq_false_iff_eq.mpr c15
          clear c15
          have H' := Aside0.mk H
          clear H
          have p12 : 0 ≤ (x6_1 : Int) := of_decide_eq_true (by first | (with_reducible assumption) | assumption)
          have q12 : x6_1 < (a0.size : Int) := of_decide_eq_true (by first | (with_reducible assumption) | assumption)
          have hx12 := bt_at a0 x6_1
          replace p12 := eq_true p12
          replace q12 := eq_true q12
          have p14 : 0 ≤ (x6_1 : Int) := of_decide_eq_true (by first | (with_reducible assumption) | assumption)
          have q14 : x6_1 < (a0.size : Int) := of_decide_eq_true (by first | (with_reducible assumption) | assumption)
          have hx14 := bt_at a0 x6_1
          replace p14 := eq_true p14
          replace q14 := eq_true q14
          go_wp2
          go_roundg k1
          case measure => have := HK1.out; omega
          case rel => exact ⟨(false), (wrap64 (x6_1 + 1)), (by first | rfl | (simp; done) | (simp [*]; done)), (by first | rfl | (simp; done) | (simp [*]; done)), H', ⟨by have := HK1.out; omega⟩, ⟨by (with_reducible repeat (first | apply Kd.S_alloc | apply Kd.S_drewN | apply Kd.S_drew)); exact HO_3.out⟩, ⟨by repeat (first | (with_reducible first | exact HB.out | apply below_alloc | apply pw_below_drewN | apply below_drew1) | exact HB.out)⟩⟩
         ·rw [if_neg c15] at H
          have c15b0 : ((bt a0 x6_1) == 38) = false := beq_eq_false_iff_ne.mpr c15
          have c15b1 : ((bt a0 x6_1) != 38) = true := bne_iff_ne.mpr c15
          have H' := Aside0.mk H
          clear H
          have p12 : 0 ≤ (x6_1 : Int) := of_decide_eq_true (by first | (with_reducible assumption) | assumption)
          have q12 : x6_1 < (a0.size : Int) := of_decide_eq_true (by first | (with_reducible assumption) | assumption)
          have hx12 := bt_at a0 x6_1
          replace p12 := eq_true p12
          replace q12 := eq_true q12
          have p14 : 0 ≤ (x6_1 : Int) := of_decide_eq_true (by first | (with_reducible assumption) | assumption)
          have q14 : x6_1 < (a0.size : Int) := of_decide_eq_true (by first | (with_reducible assumption) | assumption)
          have hx14 := bt_at a0 x6_1
          replace p14 := eq_true p14
          replace q14 := eq_true q14
          have p16 : 0 ≤ (x6_1 : Int) := of_decide_eq_true (by first | (with_reducible assumption) | assumption)
          have q16 : x6_1 < (a0.size : Int) := of_decide_eq_true (by first | (with_reducible assumption) | assumption)
          have hx16 := bt_at a0 x6_1
          replace p16 := eq_true p16
          replace q16 := eq_true q16
          go_wp2
          go_roundg k1
          case measure => have := HK1.out; omega
          case rel => exact ⟨(((bt a0 x6_1) != 13)), (wrap64 (x6_1 + 1)), (by first | rfl | (simp; done) | (simp [*]; done)), (by first | rfl | (simp; done) | (simp [*]; done)), H', ⟨by have := HK1.out; omega⟩, ⟨by (with_reducible repeat (first | apply Kd.S_alloc | apply Kd.S_drewN | apply Kd.S_drew)); exact HO_3.out⟩, ⟨by repeat (first | (with_reducible first | exact HB.out | apply below_alloc | apply pw_below_drewN | apply below_drew1) | exact HB.out)⟩⟩
       ·rw [if_neg c11] at H
        exact absurd H (by simp)
      ·replace c10 := Bool.eq_false_iff.mpr c10
       subst c10
       have H1 : (stolelaw5_TokenTexts.l0 k1 a0 t148 false (wrap64 (x6_1 + 1))) = some r := by rw [if_neg (show ¬ (false = true) by decide)] at H; exact H
       clear H
       have H := H1
       clear H1
       have H' := Aside0.mk H
       clear H
       go_wp2
       go_roundg k1
       case measure => have := HK1.out; omega
       case rel => exact ⟨(false), (wrap64 (x6_1 + 1)), (by first | rfl | (simp; done) | (simp [*]; done)), (by first | rfl | (simp; done) | (simp [*]; done)), H', ⟨by have := HK1.out; omega⟩, ⟨by (with_reducible repeat (first | apply Kd.S_alloc | apply Kd.S_drewN | apply Kd.S_drew)); exact HO_3.out⟩, ⟨by repeat (first | (with_reducible first | exact HB.out | apply below_alloc | apply pw_below_drewN | apply below_drew1) | exact HB.out)⟩⟩
     ·rw [if_neg c9] at H
      have c9b0 : decide (x6_1 < (a0.size : Int)) = false := decide_eq_false c9
      clear c9
      have H' := Aside0.mk H
      clear H
      go_wp2
      go_loopg [7] k1 (fun kq v7 w' => ∃ (x7_2 : Int), v7 = .int .i64 x7_2 ∧ Aside0 (stolelaw5_TokenTexts.l1 kq a0 t148 x5_1 x7_2 = some r) ∧ Aside0 (kq ≤ k1) ∧ Aside0 (Kd.S k30 30 w' w.heap.size (fun _ => True) v150 t148) ∧ Aside0 (Below w.heap.size w w'))
      case atStart => exact ⟨(0), (by first | rfl | (simp; done) | (simp [*]; done)), H', ⟨Nat.le_refl _⟩, ⟨by (with_reducible repeat (first | apply Kd.S_alloc | apply Kd.S_drewN | apply Kd.S_drew)); exact HO_3.out⟩, ⟨by repeat (first | (with_reducible first | exact HB.out | apply below_alloc | apply pw_below_drewN | apply below_drew1) | exact HB.out)⟩⟩
      case round =>
       clear H'
       try clear c1
       try clear p1
       try clear q1
       try clear hx1
       try clear p2
       try clear c3
       try clear c6
       try clear c6b0
       try clear c6b1
       try clear p6
       try clear c9
       try clear c9b0
       try clear c10
       try clear c11
       try clear c11b0
       try clear c12
       try clear p12
       try clear q12
       try clear hx12
       try clear c13
       try clear c13b0
       try clear c13b1
       try clear p14
       try clear q14
       try clear hx14
       try clear c15
       try clear c15b0
       try clear c15b1
       try clear p16
       try clear q16
       try clear hx16
       try clear p12
       try clear p14
       try clear p16
       try clear p2
       try clear q12
       try clear q14
       try clear q16
       obtain ⟨x7_2, rfl, HA, HK2, HO_3, HB⟩ := hrel
       cases gk with
       | zero => exact absurd HA.out (by simp [stolelaw5_TokenTexts.l1])
       | succ k2 =>
        have H := HA.out
        clear HA
        simp only [stolelaw5_TokenTexts.l1] at H
        by_cases c17 : x7_2 < (t148.length : Int)
        ·rw [if_pos c17] at H
         have c17b0 : decide (x7_2 < (t148.length : Int)) = true := decide_eq_true c17
         clear c17
         by_cases c18 : x7_2 > 0
         ·rw [if_pos c18] at H
          have c18b0 : decide (0 < x7_2) = true := decide_eq_true c18
          clear c18
          by_cases c19 : 0 ≤ x7_2
          ·rw [if_pos c19] at H
           have c19b0 : decide (0 ≤ x7_2) = true := decide_eq_true c19
           clear c19
           by_cases c20 : ((rd_T30 t148 x7_2).f0) = 0
           ·rw [if_pos c20] at H
            have c20b0 : (((rd_T30 t148 x7_2).f0) == 0) = true := beq_iff_eq.mpr c20
            have c20b1 : (((rd_T30 t148 x7_2).f0) != 0) = false := bne_eq_false_iff_eq.mpr c20
            clear c20
            obtain ⟨ji21, hji21⟩ : ∃ j_ : Int, (wrap64 (x7_2 - 1)) = j_ := ⟨_, rfl⟩
            replace H : (if 0 ≤ (ji21) then (if (ji21) < (t148.length : Int) then (if ((rd_T30 t148 (ji21)).f0) = 0 then (some false) else (if ((rd_T30 t148 x7_2).f2).toList = ([] : List UInt8) then (some false) else (stolelaw5_TokenTexts.l1 k2 a0 t148 x5_1 (wrap64 (x7_2 + 1))))) else (none)) else (none)) = some r := by first | (rw [hji21] at H; exact H) | (simp only [hji21] at H ⊢; exact H)
            have hji21w : (IntKind.i64.wrap (x7_2 - 1)) = ji21 := (i64_w _).trans hji21
            by_cases c22 : 0 ≤ (ji21)
            ·rw [if_pos c22] at H
             have c22b0 : decide (0 ≤ (ji21)) = true := decide_eq_true c22
             clear c22
             by_cases c23 : (ji21) < (t148.length : Int)
             ·rw [if_pos c23] at H
              have c23b0 : decide ((ji21) < (t148.length : Int)) = true := decide_eq_true c23
              clear c23
              by_cases c24 : ((rd_T30 t148 (ji21)).f0) = 0
              ·rw [if_pos c24] at H
               have c24b0 : (((rd_T30 t148 (ji21)).f0) == 0) = true := beq_iff_eq.mpr c24
               have c24b1 : (((rd_T30 t148 (ji21)).f0) != 0) = false := bne_eq_false_iff_eq.mpr c24
               clear c24
               obtain rfl := Option.some.inj H
               exact absurd hr (by simp)
              ·rw [if_neg c24] at H
               have c24b0 : (((rd_T30 t148 (ji21)).f0) == 0) = false := beq_eq_false_iff_ne.mpr c24
               have c24b1 : (((rd_T30 t148 (ji21)).f0) != 0) = true := bne_iff_ne.mpr c24
               by_cases c26 : ((rd_T30 t148 x7_2).f2).toList = ([] : List UInt8)
               ·rw [if_pos c26] at H
                have c26b0 : (((rd_T30 t148 x7_2).f2).toList == ([] : List UInt8)) = true := beq_iff_eq.mpr c26
                (try (have c26b4 : (((rd_T30 t148 x7_2).f2).toList.isEmpty) = true := by simpa only [nil_beq] using c26b0))
                have c26b1 : (((rd_T30 t148 x7_2).f2).toList != ([] : List UInt8)) = false := bne_eq_false_iff_eq.mpr c26
                clear c26
                obtain rfl := Option.some.inj H
                exact absurd hr (by simp)
               ·rw [if_neg c26] at H
                have c26b0 : (((rd_T30 t148 x7_2).f2).toList == ([] : List UInt8)) = false := beq_eq_false_iff_ne.mpr c26
                (try (have c26b4 : (((rd_T30 t148 x7_2).f2).toList.isEmpty) = false := by simpa only [nil_beq] using c26b0))
                have c26b1 : (((rd_T30 t148 x7_2).f2).toList != ([] : List UInt8)) = true := bne_iff_ne.mpr c26
                have H' := Aside0.mk H
                clear H
                obtain ⟨Ao28, co28, eo28⟩ := Kd.S_slice HO_3.out
                subst eo28
                have p153 : 0 ≤ (x7_2 : Int) := of_decide_eq_true (by first | (with_reducible assumption) | assumption)
                have q153 : x7_2 < (t148.length : Int) := of_decide_eq_true (by first | (with_reducible assumption) | assumption)
                obtain ⟨ad153, A153_3, c153_3, e153, hx153_0, hx153_1, hx153_2, hx153_3, hx153_4, hl153_3, hi153_3⟩ := at_T30 (Kd.S_reads' HO_3.out).2.2 x7_2 p153 q153
                cases e153
                obtain ⟨ce153, hce153, hMe153, hcc153⟩ := Kd.S_get HO_3.out z30 x7_2 p153 (by first | exact q153 | exact of_decide_eq_true (by first | (with_reducible assumption) | assumption) | (have e_ := (Kd.S_reads' HO_3.out).1; omega))
                obtain ⟨ve153_3, rfl, ge153_3⟩ := k30_openM hMe153
                have hv153_3 := hcc153 3 _ rfl
                rw [add_field _ _ 3 (by omega)] at hv153_3
                replace hv153_3 := Option.some.inj (hv153_3.symm.trans hx153_3)
                rw [hv153_3] at ge153_3
                have HL153_3 := Aside0.mk (show Kd.R k47 47 _ _ _ _ ((rd_T30 t148 x7_2).f3) from ge153_3)
                clear hv153_3 ge153_3
                clear hcc153 hce153
                have HR153_3 := Aside0.mk hi153_3
                have HC153_3 := Aside0.mk hl153_3
                clear hi153_3 hl153_3
                replace p153 := eq_true p153
                replace q153 := eq_true q153
                have p154 : 0 ≤ ((ji21) : Int) := of_decide_eq_true (by first | (with_reducible assumption) | assumption)
                have q154 : (ji21) < (t148.length : Int) := of_decide_eq_true (by first | (with_reducible assumption) | assumption)
                obtain ⟨ad154, A154_3, c154_3, e154, hx154_0, hx154_1, hx154_2, hx154_3, hx154_4, hl154_3, hi154_3⟩ := at_T30 (Kd.S_reads' HO_3.out).2.2 (ji21) p154 q154
                obtain rfl : ad153 = ad154 := (by injection e154)
                obtain ⟨ce154, hce154, hMe154, hcc154⟩ := Kd.S_get HO_3.out z30 (ji21) p154 (by first | exact q154 | exact of_decide_eq_true (by first | (with_reducible assumption) | assumption) | (have e_ := (Kd.S_reads' HO_3.out).1; omega))
                obtain ⟨ve154_3, rfl, ge154_3⟩ := k30_openM hMe154
                have hv154_3 := hcc154 3 _ rfl
                rw [add_field _ _ 3 (by omega)] at hv154_3
                replace hv154_3 := Option.some.inj (hv154_3.symm.trans hx154_3)
                rw [hv154_3] at ge154_3
                have HL154_3 := Aside0.mk (show Kd.R k47 47 _ _ _ _ ((rd_T30 t148 (ji21)).f3) from ge154_3)
                clear hv154_3 ge154_3
                clear hcc154 hce154
                have HR154_3 := Aside0.mk hi154_3
                have HC154_3 := Aside0.mk hl154_3
                clear hi154_3 hl154_3
                replace p154 := eq_true p154
                replace q154 := eq_true q154
                have p155 : 0 ≤ (x7_2 : Int) := of_decide_eq_true (by first | (with_reducible assumption) | assumption)
                have q155 : x7_2 < (t148.length : Int) := of_decide_eq_true (by first | (with_reducible assumption) | assumption)
                obtain ⟨ad155, A155_3, c155_3, e155, hx155_0, hx155_1, hx155_2, hx155_3, hx155_4, hl155_3, hi155_3⟩ := at_T30 (Kd.S_reads' HO_3.out).2.2 x7_2 p155 q155
                obtain rfl : ad153 = ad155 := (by injection e155)
                obtain ⟨ce155, hce155, hMe155, hcc155⟩ := Kd.S_get HO_3.out z30 x7_2 p155 (by first | exact q155 | exact of_decide_eq_true (by first | (with_reducible assumption) | assumption) | (have e_ := (Kd.S_reads' HO_3.out).1; omega))
                obtain ⟨ve155_3, rfl, ge155_3⟩ := k30_openM hMe155
                have hv155_3 := hcc155 3 _ rfl
                rw [add_field _ _ 3 (by omega)] at hv155_3
                replace hv155_3 := Option.some.inj (hv155_3.symm.trans hx155_3)
                rw [hv155_3] at ge155_3
                have HL155_3 := Aside0.mk (show Kd.R k47 47 _ _ _ _ ((rd_T30 t148 x7_2).f3) from ge155_3)
                clear hv155_3 ge155_3
                clear hcc155 hce155
                have HR155_3 := Aside0.mk hi155_3
                have HC155_3 := Aside0.mk hl155_3
                clear hi155_3 hl155_3
                replace p155 := eq_true p155
                replace q155 := eq_true q155
                have ea_ := Option.some.inj (hx153_3.symm.trans hx155_3)
                injection ea_ with ea_ en_ ec_
                subst ea_
                subst ec_
                clear en_
                have p156 : 0 ≤ (x7_2 : Int) := of_decide_eq_true (by first | (with_reducible assumption) | assumption)
                have q156 : x7_2 < (t148.length : Int) := of_decide_eq_true (by first | (with_reducible assumption) | assumption)
                obtain ⟨ad156, A156_3, c156_3, e156, hx156_0, hx156_1, hx156_2, hx156_3, hx156_4, hl156_3, hi156_3⟩ := at_T30 (Kd.S_reads' HO_3.out).2.2 x7_2 p156 q156
                obtain rfl : ad153 = ad156 := (by injection e156)
                obtain ⟨ce156, hce156, hMe156, hcc156⟩ := Kd.S_get HO_3.out z30 x7_2 p156 (by first | exact q156 | exact of_decide_eq_true (by first | (with_reducible assumption) | assumption) | (have e_ := (Kd.S_reads' HO_3.out).1; omega))
                obtain ⟨ve156_3, rfl, ge156_3⟩ := k30_openM hMe156
                have hv156_3 := hcc156 3 _ rfl
                rw [add_field _ _ 3 (by omega)] at hv156_3
                replace hv156_3 := Option.some.inj (hv156_3.symm.trans hx156_3)
                rw [hv156_3] at ge156_3
                have HL156_3 := Aside0.mk (show Kd.R k47 47 _ _ _ _ ((rd_T30 t148 x7_2).f3) from ge156_3)
                clear hv156_3 ge156_3
                clear hcc156 hce156
                have HR156_3 := Aside0.mk hi156_3
                have HC156_3 := Aside0.mk hl156_3
                clear hi156_3 hl156_3
                replace p156 := eq_true p156
                replace q156 := eq_true q156
                have ea_ := Option.some.inj (hx153_3.symm.trans hx156_3)
                injection ea_ with ea_ en_ ec_
                subst ea_
                subst ec_
                clear en_
                go_wp2
                go_roundg k2
                case measure => have := HK1.out; have := HK2.out; omega
                case rel => exact ⟨(wrap64 (x7_2 + 1)), (by first | rfl | (simp; done) | (simp [*]; done)), H', ⟨by have := HK1.out; have := HK2.out; omega⟩, ⟨by (with_reducible repeat (first | apply Kd.S_alloc | apply Kd.S_drewN | apply Kd.S_drew)); exact HO_3.out⟩, ⟨by repeat (first | (with_reducible first | exact HB.out | apply below_alloc | apply pw_below_drewN | apply below_drew1) | exact HB.out)⟩⟩
             ·rw [if_neg c23] at H
              exact absurd H (by simp)
            ·rw [if_neg c22] at H
             exact absurd H (by simp)
           ·rw [if_neg c20] at H
            have c20b0 : (((rd_T30 t148 x7_2).f0) == 0) = false := beq_eq_false_iff_ne.mpr c20
            have c20b1 : (((rd_T30 t148 x7_2).f0) != 0) = true := bne_iff_ne.mpr c20
            have H' := Aside0.mk H
            clear H
            obtain ⟨Ao29, co29, eo29⟩ := Kd.S_slice HO_3.out
            subst eo29
            have p153 : 0 ≤ (x7_2 : Int) := of_decide_eq_true (by first | (with_reducible assumption) | assumption)
            have q153 : x7_2 < (t148.length : Int) := of_decide_eq_true (by first | (with_reducible assumption) | assumption)
            obtain ⟨ad153, A153_3, c153_3, e153, hx153_0, hx153_1, hx153_2, hx153_3, hx153_4, hl153_3, hi153_3⟩ := at_T30 (Kd.S_reads' HO_3.out).2.2 x7_2 p153 q153
            cases e153
            obtain ⟨ce153, hce153, hMe153, hcc153⟩ := Kd.S_get HO_3.out z30 x7_2 p153 (by first | exact q153 | exact of_decide_eq_true (by first | (with_reducible assumption) | assumption) | (have e_ := (Kd.S_reads' HO_3.out).1; omega))
            obtain ⟨ve153_3, rfl, ge153_3⟩ := k30_openM hMe153
            have hv153_3 := hcc153 3 _ rfl
            rw [add_field _ _ 3 (by omega)] at hv153_3
            replace hv153_3 := Option.some.inj (hv153_3.symm.trans hx153_3)
            rw [hv153_3] at ge153_3
            have HL153_3 := Aside0.mk (show Kd.R k47 47 _ _ _ _ ((rd_T30 t148 x7_2).f3) from ge153_3)
            clear hv153_3 ge153_3
            clear hcc153 hce153
            have HR153_3 := Aside0.mk hi153_3
            have HC153_3 := Aside0.mk hl153_3
            clear hi153_3 hl153_3
            replace p153 := eq_true p153
            replace q153 := eq_true q153
            have p157 : 0 ≤ (x7_2 : Int) := of_decide_eq_true (by first | (with_reducible assumption) | assumption)
            have q157 : x7_2 < (t148.length : Int) := of_decide_eq_true (by first | (with_reducible assumption) | assumption)
            obtain ⟨ad157, A157_3, c157_3, e157, hx157_0, hx157_1, hx157_2, hx157_3, hx157_4, hl157_3, hi157_3⟩ := at_T30 (Kd.S_reads' HO_3.out).2.2 x7_2 p157 q157
            obtain rfl : ad153 = ad157 := (by injection e157)
            obtain ⟨ce157, hce157, hMe157, hcc157⟩ := Kd.S_get HO_3.out z30 x7_2 p157 (by first | exact q157 | exact of_decide_eq_true (by first | (with_reducible assumption) | assumption) | (have e_ := (Kd.S_reads' HO_3.out).1; omega))
            obtain ⟨ve157_3, rfl, ge157_3⟩ := k30_openM hMe157
            have hv157_3 := hcc157 3 _ rfl
            rw [add_field _ _ 3 (by omega)] at hv157_3
            replace hv157_3 := Option.some.inj (hv157_3.symm.trans hx157_3)
            rw [hv157_3] at ge157_3
            have HL157_3 := Aside0.mk (show Kd.R k47 47 _ _ _ _ ((rd_T30 t148 x7_2).f3) from ge157_3)
            clear hv157_3 ge157_3
            clear hcc157 hce157
            have HR157_3 := Aside0.mk hi157_3
            have HC157_3 := Aside0.mk hl157_3
            clear hi157_3 hl157_3
            replace p157 := eq_true p157
            replace q157 := eq_true q157
            have ea_ := Option.some.inj (hx153_3.symm.trans hx157_3)
            injection ea_ with ea_ en_ ec_
            subst ea_
            subst ec_
            clear en_
            go_wp2
            go_roundg k2
            case measure => have := HK1.out; have := HK2.out; omega
            case rel => exact ⟨(wrap64 (x7_2 + 1)), (by first | rfl | (simp; done) | (simp [*]; done)), H', ⟨by have := HK1.out; have := HK2.out; omega⟩, ⟨by (with_reducible repeat (first | apply Kd.S_alloc | apply Kd.S_drewN | apply Kd.S_drew)); exact HO_3.out⟩, ⟨by repeat (first | (with_reducible first | exact HB.out | apply below_alloc | apply pw_below_drewN | apply below_drew1) | exact HB.out)⟩⟩
          ·rw [if_neg c19] at H
           exact absurd H (by simp)
         ·rw [if_neg c18] at H
          have c18b0 : decide (0 < x7_2) = false := decide_eq_false c18
          clear c18
          by_cases c30 : 0 ≤ x7_2
          ·rw [if_pos c30] at H
           have c30b0 : decide (0 ≤ x7_2) = true := decide_eq_true c30
           clear c30
           by_cases c31 : ((rd_T30 t148 x7_2).f0) = 0
           ·rw [if_pos c31] at H
            have c31b0 : (((rd_T30 t148 x7_2).f0) == 0) = true := beq_iff_eq.mpr c31
            have c31b1 : (((rd_T30 t148 x7_2).f0) != 0) = false := bne_eq_false_iff_eq.mpr c31
            clear c31
            by_cases c32 : ((rd_T30 t148 x7_2).f2).toList = ([] : List UInt8)
            ·rw [if_pos c32] at H
             have c32b0 : (((rd_T30 t148 x7_2).f2).toList == ([] : List UInt8)) = true := beq_iff_eq.mpr c32
             (try (have c32b4 : (((rd_T30 t148 x7_2).f2).toList.isEmpty) = true := by simpa only [nil_beq] using c32b0))
             have c32b1 : (((rd_T30 t148 x7_2).f2).toList != ([] : List UInt8)) = false := bne_eq_false_iff_eq.mpr c32
             clear c32
             obtain rfl := Option.some.inj H
             exact absurd hr (by simp)
            ·rw [if_neg c32] at H
             have c32b0 : (((rd_T30 t148 x7_2).f2).toList == ([] : List UInt8)) = false := beq_eq_false_iff_ne.mpr c32
             (try (have c32b4 : (((rd_T30 t148 x7_2).f2).toList.isEmpty) = false := by simpa only [nil_beq] using c32b0))
             have c32b1 : (((rd_T30 t148 x7_2).f2).toList != ([] : List UInt8)) = true := bne_iff_ne.mpr c32
             have H' := Aside0.mk H
             clear H
             obtain ⟨Ao34, co34, eo34⟩ := Kd.S_slice HO_3.out
             subst eo34
             have p158 : 0 ≤ (x7_2 : Int) := of_decide_eq_true (by first | (with_reducible assumption) | assumption)
             have q158 : x7_2 < (t148.length : Int) := of_decide_eq_true (by first | (with_reducible assumption) | assumption)
             obtain ⟨ad158, A158_3, c158_3, e158, hx158_0, hx158_1, hx158_2, hx158_3, hx158_4, hl158_3, hi158_3⟩ := at_T30 (Kd.S_reads' HO_3.out).2.2 x7_2 p158 q158
             cases e158
             obtain ⟨ce158, hce158, hMe158, hcc158⟩ := Kd.S_get HO_3.out z30 x7_2 p158 (by first | exact q158 | exact of_decide_eq_true (by first | (with_reducible assumption) | assumption) | (have e_ := (Kd.S_reads' HO_3.out).1; omega))
             obtain ⟨ve158_3, rfl, ge158_3⟩ := k30_openM hMe158
             have hv158_3 := hcc158 3 _ rfl
             rw [add_field _ _ 3 (by omega)] at hv158_3
             replace hv158_3 := Option.some.inj (hv158_3.symm.trans hx158_3)
             rw [hv158_3] at ge158_3
             have HL158_3 := Aside0.mk (show Kd.R k47 47 _ _ _ _ ((rd_T30 t148 x7_2).f3) from ge158_3)
             clear hv158_3 ge158_3
             clear hcc158 hce158
             have HR158_3 := Aside0.mk hi158_3
             have HC158_3 := Aside0.mk hl158_3
             clear hi158_3 hl158_3
             replace p158 := eq_true p158
             replace q158 := eq_true q158
             have p159 : 0 ≤ (x7_2 : Int) := of_decide_eq_true (by first | (with_reducible assumption) | assumption)
             have q159 : x7_2 < (t148.length : Int) := of_decide_eq_true (by first | (with_reducible assumption) | assumption)
             obtain ⟨ad159, A159_3, c159_3, e159, hx159_0, hx159_1, hx159_2, hx159_3, hx159_4, hl159_3, hi159_3⟩ := at_T30 (Kd.S_reads' HO_3.out).2.2 x7_2 p159 q159
             obtain rfl : ad158 = ad159 := (by injection e159)
             obtain ⟨ce159, hce159, hMe159, hcc159⟩ := Kd.S_get HO_3.out z30 x7_2 p159 (by first | exact q159 | exact of_decide_eq_true (by first | (with_reducible assumption) | assumption) | (have e_ := (Kd.S_reads' HO_3.out).1; omega))
             obtain ⟨ve159_3, rfl, ge159_3⟩ := k30_openM hMe159
             have hv159_3 := hcc159 3 _ rfl
             rw [add_field _ _ 3 (by omega)] at hv159_3
             replace hv159_3 := Option.some.inj (hv159_3.symm.trans hx159_3)
             rw [hv159_3] at ge159_3
             have HL159_3 := Aside0.mk (show Kd.R k47 47 _ _ _ _ ((rd_T30 t148 x7_2).f3) from ge159_3)
             clear hv159_3 ge159_3
             clear hcc159 hce159
             have HR159_3 := Aside0.mk hi159_3
             have HC159_3 := Aside0.mk hl159_3
             clear hi159_3 hl159_3
             replace p159 := eq_true p159
             replace q159 := eq_true q159
             have ea_ := Option.some.inj (hx158_3.symm.trans hx159_3)
             injection ea_ with ea_ en_ ec_
             subst ea_
             subst ec_
             clear en_
             go_wp2
             go_roundg k2
             case measure => have := HK1.out; have := HK2.out; omega
             case rel => exact ⟨(wrap64 (x7_2 + 1)), (by first | rfl | (simp; done) | (simp [*]; done)), H', ⟨by have := HK1.out; have := HK2.out; omega⟩, ⟨by (with_reducible repeat (first | apply Kd.S_alloc | apply Kd.S_drewN | apply Kd.S_drew)); exact HO_3.out⟩, ⟨by repeat (first | (with_reducible first | exact HB.out | apply below_alloc | apply pw_below_drewN | apply below_drew1) | exact HB.out)⟩⟩
           ·rw [if_neg c31] at H
            have c31b0 : (((rd_T30 t148 x7_2).f0) == 0) = false := beq_eq_false_iff_ne.mpr c31
            have c31b1 : (((rd_T30 t148 x7_2).f0) != 0) = true := bne_iff_ne.mpr c31
            have H' := Aside0.mk H
            clear H
            obtain ⟨Ao35, co35, eo35⟩ := Kd.S_slice HO_3.out
            subst eo35
            have p158 : 0 ≤ (x7_2 : Int) := of_decide_eq_true (by first | (with_reducible assumption) | assumption)
            have q158 : x7_2 < (t148.length : Int) := of_decide_eq_true (by first | (with_reducible assumption) | assumption)
            obtain ⟨ad158, A158_3, c158_3, e158, hx158_0, hx158_1, hx158_2, hx158_3, hx158_4, hl158_3, hi158_3⟩ := at_T30 (Kd.S_reads' HO_3.out).2.2 x7_2 p158 q158
            cases e158
            obtain ⟨ce158, hce158, hMe158, hcc158⟩ := Kd.S_get HO_3.out z30 x7_2 p158 (by first | exact q158 | exact of_decide_eq_true (by first | (with_reducible assumption) | assumption) | (have e_ := (Kd.S_reads' HO_3.out).1; omega))
            obtain ⟨ve158_3, rfl, ge158_3⟩ := k30_openM hMe158
            have hv158_3 := hcc158 3 _ rfl
            rw [add_field _ _ 3 (by omega)] at hv158_3
            replace hv158_3 := Option.some.inj (hv158_3.symm.trans hx158_3)
            rw [hv158_3] at ge158_3
            have HL158_3 := Aside0.mk (show Kd.R k47 47 _ _ _ _ ((rd_T30 t148 x7_2).f3) from ge158_3)
            clear hv158_3 ge158_3
            clear hcc158 hce158
            have HR158_3 := Aside0.mk hi158_3
            have HC158_3 := Aside0.mk hl158_3
            clear hi158_3 hl158_3
            replace p158 := eq_true p158
            replace q158 := eq_true q158
            go_wp2
            go_roundg k2
            case measure => have := HK1.out; have := HK2.out; omega
            case rel => exact ⟨(wrap64 (x7_2 + 1)), (by first | rfl | (simp; done) | (simp [*]; done)), H', ⟨by have := HK1.out; have := HK2.out; omega⟩, ⟨by (with_reducible repeat (first | apply Kd.S_alloc | apply Kd.S_drewN | apply Kd.S_drew)); exact HO_3.out⟩, ⟨by repeat (first | (with_reducible first | exact HB.out | apply below_alloc | apply pw_below_drewN | apply below_drew1) | exact HB.out)⟩⟩
          ·rw [if_neg c30] at H
           exact absurd H (by simp)
        ·rw [if_neg c17] at H
         have c17b0 : decide (x7_2 < (t148.length : Int)) = false := decide_eq_false c17
         clear c17
         by_cases c36 : x5_1 = true
         ·subst c36
          have H1 : (if a0.toList = ([] : List UInt8) then (if (t148.length : Int) = 0 then (some true) else (if (t148.length : Int) = 1 then (if 0 < (t148.length : Int) then (if ((rd_T30 t148 0).f0) = 0 then (some (((rd_T30 t148 0).f2).toList == a0.toList)) else (some false)) else (none)) else (some false))) else (if (t148.length : Int) = 1 then (if 0 < (t148.length : Int) then (if ((rd_T30 t148 0).f0) = 0 then (some (((rd_T30 t148 0).f2).toList == a0.toList)) else (some false)) else (none)) else (some false))) = some r := by rw [if_pos rfl] at H; exact H
          clear H
          have H := H1
          clear H1
          by_cases c37 : a0.toList = ([] : List UInt8)
          ·rw [if_pos c37] at H
           have c37b0 : (a0.toList == ([] : List UInt8)) = true := beq_iff_eq.mpr c37
           (try (have c37b4 : (a0.toList.isEmpty) = true := by simpa only [nil_beq] using c37b0))
           have c37b1 : (a0.toList != ([] : List UInt8)) = false := bne_eq_false_iff_eq.mpr c37
           clear c37
           by_cases c38 : (t148.length : Int) = 0
           ·rw [if_pos c38] at H
            have c38b0 : ((t148.length : Int) == 0) = true := beq_iff_eq.mpr c38
            have c38b1 : ((t148.length : Int) != 0) = false := bne_eq_false_iff_eq.mpr c38
            clear c38
            obtain rfl := Option.some.inj H
            obtain ⟨Ao39, co39, eo39⟩ := Kd.S_slice HO_3.out
            subst eo39
            go_wp2
            go_ret
            exact ⟨by first | rfl | (simp [errW_none, errW_some] <;> rfl) | (simp [*, errW_none, errW_some] <;> rfl), by repeat (first | (with_reducible first | exact HB.out | apply below_alloc | apply pw_below_drewN | apply below_drew1) | exact HB.out)⟩
           ·rw [if_neg c38] at H
            have c38b0 : ((t148.length : Int) == 0) = false := beq_eq_false_iff_ne.mpr c38
            have c38b1 : ((t148.length : Int) != 0) = true := bne_iff_ne.mpr c38
            have c38b2 : ¬ (t148 = []) := fun h_ => c38 (by rw [h_]; rfl)
            by_cases c40 : (t148.length : Int) = 1
            ·rw [if_pos c40] at H
             have c40b0 : ((t148.length : Int) == 1) = true := beq_iff_eq.mpr c40
             have c40b1 : ((t148.length : Int) != 1) = false := bne_eq_false_iff_eq.mpr c40
             clear c40
             by_cases c41 : 0 < (t148.length : Int)
             ·rw [if_pos c41] at H
              have c41b0 : decide (0 < (t148.length : Int)) = true := decide_eq_true c41
              have c41b1 : decide (0 < t148.length) = true := decide_eq_true (by omega)
              clear c41
              by_cases c42 : ((rd_T30 t148 0).f0) = 0
              ·rw [if_pos c42] at H
               have c42b0 : (((rd_T30 t148 0).f0) == 0) = true := beq_iff_eq.mpr c42
               have c42b1 : (((rd_T30 t148 0).f0) != 0) = false := bne_eq_false_iff_eq.mpr c42
               clear c42
               obtain rfl := Option.some.inj H
               obtain ⟨Ao43, co43, eo43⟩ := Kd.S_slice HO_3.out
               subst eo43
               have p160 : 0 ≤ (0 : Int) := (by omega)
               have q160 : 0 < (t148.length : Int) := of_decide_eq_true (by first | (with_reducible assumption) | assumption)
               obtain ⟨ad160, A160_3, c160_3, e160, hx160_0, hx160_1, hx160_2, hx160_3, hx160_4, hl160_3, hi160_3⟩ := at_T30 (Kd.S_reads' HO_3.out).2.2 0 p160 q160
               cases e160
               obtain ⟨ce160, hce160, hMe160, hcc160⟩ := Kd.S_get HO_3.out z30 0 p160 (by first | exact q160 | exact of_decide_eq_true (by first | (with_reducible assumption) | assumption) | (have e_ := (Kd.S_reads' HO_3.out).1; omega))
               obtain ⟨ve160_3, rfl, ge160_3⟩ := k30_openM hMe160
               have hv160_3 := hcc160 3 _ rfl
               rw [add_field _ _ 3 (by omega)] at hv160_3
               replace hv160_3 := Option.some.inj (hv160_3.symm.trans hx160_3)
               rw [hv160_3] at ge160_3
               have HL160_3 := Aside0.mk (show Kd.R k47 47 _ _ _ _ ((rd_T30 t148 0).f3) from ge160_3)
               clear hv160_3 ge160_3
               clear hcc160 hce160
               have qi160 : (0 < t148.length) = True := eq_true (by omega)
               (try rw [show ((0 : Int)).toNat = 0 from rfl] at hx160_0)
               (try rw [show 0 * 5 = 0 from rfl] at hx160_0)
               (try rw [Addr.add_zero'] at hx160_0)
               (try rw [show ((0 : Int)).toNat = 0 from rfl] at hx160_1)
               (try rw [show 0 * 5 = 0 from rfl] at hx160_1)
               (try rw [Addr.add_zero'] at hx160_1)
               (try rw [show ((0 : Int)).toNat = 0 from rfl] at hx160_2)
               (try rw [show 0 * 5 = 0 from rfl] at hx160_2)
               (try rw [Addr.add_zero'] at hx160_2)
               (try rw [show ((0 : Int)).toNat = 0 from rfl] at hx160_3)
               (try rw [show 0 * 5 = 0 from rfl] at hx160_3)
               (try rw [Addr.add_zero'] at hx160_3)
               (try rw [show ((0 : Int)).toNat = 0 from rfl] at hx160_4)
               (try rw [show 0 * 5 = 0 from rfl] at hx160_4)
               (try rw [Addr.add_zero'] at hx160_4)
               have HR160_3 := Aside0.mk hi160_3
               have HC160_3 := Aside0.mk hl160_3
               clear hi160_3 hl160_3
               replace p160 := eq_true p160
               replace q160 := eq_true q160
               have p161 : 0 ≤ (0 : Int) := (by omega)
               have q161 : 0 < (t148.length : Int) := of_decide_eq_true (by first | (with_reducible assumption) | assumption)
               obtain ⟨ad161, A161_3, c161_3, e161, hx161_0, hx161_1, hx161_2, hx161_3, hx161_4, hl161_3, hi161_3⟩ := at_T30 (Kd.S_reads' HO_3.out).2.2 0 p161 q161
               obtain rfl : ad160 = ad161 := (by injection e161)
               obtain ⟨ce161, hce161, hMe161, hcc161⟩ := Kd.S_get HO_3.out z30 0 p161 (by first | exact q161 | exact of_decide_eq_true (by first | (with_reducible assumption) | assumption) | (have e_ := (Kd.S_reads' HO_3.out).1; omega))
               obtain ⟨ve161_3, rfl, ge161_3⟩ := k30_openM hMe161
               have hv161_3 := hcc161 3 _ rfl
               rw [add_field _ _ 3 (by omega)] at hv161_3
               replace hv161_3 := Option.some.inj (hv161_3.symm.trans hx161_3)
               rw [hv161_3] at ge161_3
               have HL161_3 := Aside0.mk (show Kd.R k47 47 _ _ _ _ ((rd_T30 t148 0).f3) from ge161_3)
               clear hv161_3 ge161_3
               clear hcc161 hce161
               have qi161 : (0 < t148.length) = True := eq_true (by omega)
               (try rw [show ((0 : Int)).toNat = 0 from rfl] at hx161_0)
               (try rw [show 0 * 5 = 0 from rfl] at hx161_0)
               (try rw [Addr.add_zero'] at hx161_0)
               (try rw [show ((0 : Int)).toNat = 0 from rfl] at hx161_1)
               (try rw [show 0 * 5 = 0 from rfl] at hx161_1)
               (try rw [Addr.add_zero'] at hx161_1)
               (try rw [show ((0 : Int)).toNat = 0 from rfl] at hx161_2)
               (try rw [show 0 * 5 = 0 from rfl] at hx161_2)
               (try rw [Addr.add_zero'] at hx161_2)
               (try rw [show ((0 : Int)).toNat = 0 from rfl] at hx161_3)
               (try rw [show 0 * 5 = 0 from rfl] at hx161_3)
               (try rw [Addr.add_zero'] at hx161_3)
               (try rw [show ((0 : Int)).toNat = 0 from rfl] at hx161_4)
               (try rw [show 0 * 5 = 0 from rfl] at hx161_4)
               (try rw [Addr.add_zero'] at hx161_4)
               have HR161_3 := Aside0.mk hi161_3
               have HC161_3 := Aside0.mk hl161_3
               clear hi161_3 hl161_3
               replace p161 := eq_true p161
               replace q161 := eq_true q161
               have ea_ := Option.some.inj (hx160_3.symm.trans hx161_3)
               injection ea_ with ea_ en_ ec_
               subst ea_
               subst ec_
               clear en_
               go_wp2
               go_ret
               exact ⟨by first | rfl | (simp [errW_none, errW_some] <;> rfl) | (simp [*, errW_none, errW_some] <;> rfl), by repeat (first | (with_reducible first | exact HB.out | apply below_alloc | apply pw_below_drewN | apply below_drew1) | exact HB.out)⟩
              ·rw [if_neg c42] at H
               have c42b0 : (((rd_T30 t148 0).f0) == 0) = false := beq_eq_false_iff_ne.mpr c42
               have c42b1 : (((rd_T30 t148 0).f0) != 0) = true := bne_iff_ne.mpr c42
               obtain rfl := Option.some.inj H
               exact absurd hr (by simp)
             ·rw [if_neg c41] at H
              exact absurd H (by simp)
            ·rw [if_neg c40] at H
             have c40b0 : ((t148.length : Int) == 1) = false := beq_eq_false_iff_ne.mpr c40
             have c40b1 : ((t148.length : Int) != 1) = true := bne_iff_ne.mpr c40
             obtain rfl := Option.some.inj H
             exact absurd hr (by simp)
          ·rw [if_neg c37] at H
           have c37b0 : (a0.toList == ([] : List UInt8)) = false := beq_eq_false_iff_ne.mpr c37
           (try (have c37b4 : (a0.toList.isEmpty) = false := by simpa only [nil_beq] using c37b0))
           have c37b1 : (a0.toList != ([] : List UInt8)) = true := bne_iff_ne.mpr c37
           by_cases c46 : (t148.length : Int) = 1
           ·rw [if_pos c46] at H
            have c46b0 : ((t148.length : Int) == 1) = true := beq_iff_eq.mpr c46
            have c46b1 : ((t148.length : Int) != 1) = false := bne_eq_false_iff_eq.mpr c46
            clear c46
            by_cases c47 : 0 < (t148.length : Int)
            ·rw [if_pos c47] at H
             have c47b0 : decide (0 < (t148.length : Int)) = true := decide_eq_true c47
             have c47b1 : decide (0 < t148.length) = true := decide_eq_true (by omega)
             clear c47
             by_cases c48 : ((rd_T30 t148 0).f0) = 0
             ·rw [if_pos c48] at H
              have c48b0 : (((rd_T30 t148 0).f0) == 0) = true := beq_iff_eq.mpr c48
              have c48b1 : (((rd_T30 t148 0).f0) != 0) = false := bne_eq_false_iff_eq.mpr c48
              clear c48
              obtain rfl := Option.some.inj H
              obtain ⟨Ao49, co49, eo49⟩ := Kd.S_slice HO_3.out
              subst eo49
              have p162 : 0 ≤ (0 : Int) := (by omega)
              have q162 : 0 < (t148.length : Int) := of_decide_eq_true (by first | (with_reducible assumption) | assumption)
              obtain ⟨ad162, A162_3, c162_3, e162, hx162_0, hx162_1, hx162_2, hx162_3, hx162_4, hl162_3, hi162_3⟩ := at_T30 (Kd.S_reads' HO_3.out).2.2 0 p162 q162
              cases e162
              obtain ⟨ce162, hce162, hMe162, hcc162⟩ := Kd.S_get HO_3.out z30 0 p162 (by first | exact q162 | exact of_decide_eq_true (by first | (with_reducible assumption) | assumption) | (have e_ := (Kd.S_reads' HO_3.out).1; omega))
              obtain ⟨ve162_3, rfl, ge162_3⟩ := k30_openM hMe162
              have hv162_3 := hcc162 3 _ rfl
              rw [add_field _ _ 3 (by omega)] at hv162_3
              replace hv162_3 := Option.some.inj (hv162_3.symm.trans hx162_3)
              rw [hv162_3] at ge162_3
              have HL162_3 := Aside0.mk (show Kd.R k47 47 _ _ _ _ ((rd_T30 t148 0).f3) from ge162_3)
              clear hv162_3 ge162_3
              clear hcc162 hce162
              have qi162 : (0 < t148.length) = True := eq_true (by omega)
              (try rw [show ((0 : Int)).toNat = 0 from rfl] at hx162_0)
              (try rw [show 0 * 5 = 0 from rfl] at hx162_0)
              (try rw [Addr.add_zero'] at hx162_0)
              (try rw [show ((0 : Int)).toNat = 0 from rfl] at hx162_1)
              (try rw [show 0 * 5 = 0 from rfl] at hx162_1)
              (try rw [Addr.add_zero'] at hx162_1)
              (try rw [show ((0 : Int)).toNat = 0 from rfl] at hx162_2)
              (try rw [show 0 * 5 = 0 from rfl] at hx162_2)
              (try rw [Addr.add_zero'] at hx162_2)
              (try rw [show ((0 : Int)).toNat = 0 from rfl] at hx162_3)
              (try rw [show 0 * 5 = 0 from rfl] at hx162_3)
              (try rw [Addr.add_zero'] at hx162_3)
              (try rw [show ((0 : Int)).toNat = 0 from rfl] at hx162_4)
              (try rw [show 0 * 5 = 0 from rfl] at hx162_4)
              (try rw [Addr.add_zero'] at hx162_4)
              have HR162_3 := Aside0.mk hi162_3
              have HC162_3 := Aside0.mk hl162_3
              clear hi162_3 hl162_3
              replace p162 := eq_true p162
              replace q162 := eq_true q162
              have p163 : 0 ≤ (0 : Int) := (by omega)
              have q163 : 0 < (t148.length : Int) := of_decide_eq_true (by first | (with_reducible assumption) | assumption)
              obtain ⟨ad163, A163_3, c163_3, e163, hx163_0, hx163_1, hx163_2, hx163_3, hx163_4, hl163_3, hi163_3⟩ := at_T30 (Kd.S_reads' HO_3.out).2.2 0 p163 q163
              obtain rfl : ad162 = ad163 := (by injection e163)
              obtain ⟨ce163, hce163, hMe163, hcc163⟩ := Kd.S_get HO_3.out z30 0 p163 (by first | exact q163 | exact of_decide_eq_true (by first | (with_reducible assumption) | assumption) | (have e_ := (Kd.S_reads' HO_3.out).1; omega))
              obtain ⟨ve163_3, rfl, ge163_3⟩ := k30_openM hMe163
              have hv163_3 := hcc163 3 _ rfl
              rw [add_field _ _ 3 (by omega)] at hv163_3
              replace hv163_3 := Option.some.inj (hv163_3.symm.trans hx163_3)
              rw [hv163_3] at ge163_3
              have HL163_3 := Aside0.mk (show Kd.R k47 47 _ _ _ _ ((rd_T30 t148 0).f3) from ge163_3)
              clear hv163_3 ge163_3
              clear hcc163 hce163
              have qi163 : (0 < t148.length) = True := eq_true (by omega)
              (try rw [show ((0 : Int)).toNat = 0 from rfl] at hx163_0)
              (try rw [show 0 * 5 = 0 from rfl] at hx163_0)
              (try rw [Addr.add_zero'] at hx163_0)
              (try rw [show ((0 : Int)).toNat = 0 from rfl] at hx163_1)
              (try rw [show 0 * 5 = 0 from rfl] at hx163_1)
              (try rw [Addr.add_zero'] at hx163_1)
              (try rw [show ((0 : Int)).toNat = 0 from rfl] at hx163_2)
              (try rw [show 0 * 5 = 0 from rfl] at hx163_2)
              (try rw [Addr.add_zero'] at hx163_2)
              (try rw [show ((0 : Int)).toNat = 0 from rfl] at hx163_3)
              (try rw [show 0 * 5 = 0 from rfl] at hx163_3)
              (try rw [Addr.add_zero'] at hx163_3)
              (try rw [show ((0 : Int)).toNat = 0 from rfl] at hx163_4)
              (try rw [show 0 * 5 = 0 from rfl] at hx163_4)
              (try rw [Addr.add_zero'] at hx163_4)
              have HR163_3 := Aside0.mk hi163_3
              have HC163_3 := Aside0.mk hl163_3
              clear hi163_3 hl163_3
              replace p163 := eq_true p163
              replace q163 := eq_true q163
              have ea_ := Option.some.inj (hx162_3.symm.trans hx163_3)
              injection ea_ with ea_ en_ ec_
              subst ea_
              subst ec_
              clear en_
              go_wp2
              go_ret
              exact ⟨by first | rfl | (simp [errW_none, errW_some] <;> rfl) | (simp [*, errW_none, errW_some] <;> rfl), by repeat (first | (with_reducible first | exact HB.out | apply below_alloc | apply pw_below_drewN | apply below_drew1) | exact HB.out)⟩
             ·rw [if_neg c48] at H
              have c48b0 : (((rd_T30 t148 0).f0) == 0) = false := beq_eq_false_iff_ne.mpr c48
              have c48b1 : (((rd_T30 t148 0).f0) != 0) = true := bne_iff_ne.mpr c48
              obtain rfl := Option.some.inj H
              exact absurd hr (by simp)
            ·rw [if_neg c47] at H
             exact absurd H (by simp)
           ·rw [if_neg c46] at H
            have c46b0 : ((t148.length : Int) == 1) = false := beq_eq_false_iff_ne.mpr c46
            have c46b1 : ((t148.length : Int) != 1) = true := bne_iff_ne.mpr c46
            obtain rfl := Option.some.inj H
            exact absurd hr (by simp)
         ·replace c36 := Bool.eq_false_iff.mpr c36
          subst c36
          have H1 : (some true) = some r := by rw [if_neg (show ¬ (false = true) by decide)] at H; exact H
          clear H
          have H := H1
          clear H1
          obtain rfl := Option.some.inj H
          obtain ⟨Ao52, co52, eo52⟩ := Kd.S_slice HO_3.out
          subst eo52
          go_wp2
          go_ret
          exact ⟨by first | rfl | (simp [errW_none, errW_some] <;> rfl) | (simp [*, errW_none, errW_some] <;> rfl), by repeat (first | (with_reducible first | exact HB.out | apply below_alloc | apply pw_below_drewN | apply below_drew1) | exact HB.out)⟩
  ·rw [if_neg c6] at H
   have c6b0 : (t152 == 0) = false := beq_eq_false_iff_ne.mpr c6
   have c6b1 : (t152 != 0) = true := bne_iff_ne.mpr c6
   obtain rfl := Option.some.inj H
   go_enter Tryd.func3, Tryd.ntmps3
   go_wp2_with (first | ((with_reducible refine gate_callee (f := 10) rfl ?_); refine goesL_ (some 8) rfl rfl Tryd.func10 (by kernel_rfl) rfl #[] rfl (by (try simp only [List.map_toArray, List.map_cons, List.map_nil]); first | done | rfl | (simp only [List.length_drop, List.length_take]; rfl)) ?_; (with_reducible refine (stolelaw5_awake.calls k  true _ (tabs_below HT.out (by repeat (first | (with_reducible first | exact HB.out | apply below_alloc | apply pw_below_drewN | apply below_drew1) | exact HB.out))) A2.out rfl).mono ?_); rintro e w53 ⟨rfl, hb⟩; refine ⟨_, rfl, ?_⟩; have n0_ := Aside0.mk (below_step (by repeat (first | (with_reducible first | exact HB.out | apply below_alloc | apply pw_below_drewN | apply below_drew1) | exact HB.out)) hb); clear HB; have HB := n0_; clear n0_; (try clear hb); (try clear hb2); (try clear hk); (try clear hi)) | ((with_reducible refine gate_callee (f := 11) rfl ?_); refine goesL_ (some 12) rfl rfl Tryd.func11 (by kernel_rfl) rfl #[.string a0] rfl (by (try simp only [List.map_toArray, List.map_cons, List.map_nil]); first | done | rfl | (simp only [List.length_drop, List.length_take]; rfl)) ?_; (with_reducible refine (tok_Tokens.calls a0 t148 t149 _ (tabs_below HT.out (by repeat (first | (with_reducible first | exact HB.out | apply below_alloc | apply pw_below_drewN | apply below_drew1) | exact HB.out))) A4.out).mono ?_); rintro e w54 ⟨v150, rfl, ho0, hb⟩; refine ⟨_, rfl, ?_⟩; have n0_ := Aside0.mk (Kd.S_lower ho0 (below_size (by repeat (first | (with_reducible first | exact HB.out | apply below_alloc | apply pw_below_drewN | apply below_drew1) | exact HB.out)))); have n1_ := Aside0.mk (below_step (by repeat (first | (with_reducible first | exact HB.out | apply below_alloc | apply pw_below_drewN | apply below_drew1) | exact HB.out)) hb); clear HB; have HO151 := n0_; have HB := n1_; clear n0_ n1_; (try clear hb); (try clear hb2); (try clear hk); (try clear hi); (try clear ho0)) | ((with_reducible refine gate_callee (f := 12) rfl ?_); refine goesL_ (some 16) rfl rfl Tryd.func12 (by kernel_rfl) rfl #[.int .i64 t149] rfl (by (try simp only [List.map_toArray, List.map_cons, List.map_nil]); first | done | rfl | (simp only [List.length_drop, List.length_take]; rfl)) ?_; (with_reducible refine (stolelaw0_Num.calls t149 t152 _ A5.out).mono ?_); rintro e w' ⟨rfl, ⟨nd, rfl⟩⟩; refine ⟨_, rfl, ?_⟩))
   go_ret
   exact ⟨by first | rfl | (simp [errW_none, errW_some] <;> rfl) | (simp [*, errW_none, errW_some] <;> rfl), by repeat (first | (with_reducible first | exact HB.out | apply below_alloc | apply pw_below_drewN | apply below_drew1) | exact HB.out)⟩
 ·replace c3 := Bool.eq_false_iff.mpr c3
  subst c3
  have H1 : (some false) = some r := by rw [if_neg (show ¬ (false = true) by decide)] at H; exact H
  clear H
  have H := H1
  clear H1
  obtain rfl := Option.some.inj H
  exact absurd hr (by simp)
/-- THE ONE PURE STATEMENT of stolelaw5_TokenTexts: yours. -/
def stolelaw5_TokenTexts.Pure : Prop := ∀ (a0 : ByteArray), a0.size ≤ 140737488351232 → ∃ k, stolelaw5_TokenTexts.f k a0 = some true
theorem stolelaw5_TokenTexts.walk (P : stolelaw5_TokenTexts.Pure) (a0 : ByteArray) (w : World) (hT : Tabs w) (w0 : a0.size ≤ 140737488351232) :
  Calls Tryd.prog 3 #[.string a0] w fun e w' => e = .returned (.bool true) ∧ Below w.heap.size w w' := by
 obtain ⟨k, h⟩ := P a0 w0
 refine (stolelaw5_TokenTexts.calls k a0 true w hT h rfl).mono ?_
 rintro e w' ⟨rfl, hd⟩
 exact ⟨rfl, hd⟩
end Go.Proofs.YtgbaakopneldaaaDoor.XL
end
section
namespace Go.Proofs.YtgbaakopneldaaaDoor.P5
open Go.RowKit Go.Proofs.YtgbaakopneldaaaDoor.XK Go.Proofs.YtgbaakopneldaaaDoor.XL Go.Proofs.YtgbaakopneldaaaDoor.Tk Go.Proofs.YtgbaakopneldaaaDoor.ExtM Go.Proofs.YtgbaakopneldaaaDoor.Base Go.Proofs.YtgbaakopneldaaaDoorW.PrintWords Go.Proofs.YtgbaakopneldaaaDoorW.PrintLast Go.Proofs.YtgbaakopneldaaaDoorW.PrintMore
open Go.Proofs.YtgbaakopneldaaaDoor.Ln (linesB linesL lines_none lines_len)
open Go.Proofs.YtgbaakopneldaaaDoor.Refs (decL decL_nil decL_plain decL_none decL_some refAt meantL numL nameL runeOf refAt_len)
set_option linter.unusedVariables false
set_option linter.unusedSimpArgs false
set_option maxRecDepth 100000
theorem encode_pos (r : Int) : 1 ≤ (Utf8.encode r).size := by
  unfold Utf8.encode; dsimp only; repeat' split
  all_goals first | (show 1 ≤ 1; omega) | (show 1 ≤ 2; omega) | (show 1 ≤ 3; omega) | (show 1 ≤ 4; omega)
theorem numL_ne {l : List UInt8} {b m : Nat} {x : List UInt8} (h : numL l b m = some x) : x ≠ [] := by
  unfold numL at h
  split at h
  · cases h
  · obtain ⟨y, _, hy⟩ := Option.map_eq_some_iff.1 h
    have := encode_pos (runeOf y : Nat)
    rw [Lib.size_eq] at this
    rw [← hy]; intro e; rw [e] at this; simp at this
theorem nameL_ne {l x : List UInt8} (h : nameL l = some x) : x ≠ [] := by
  unfold nameL at h
  repeat' split at h
  all_goals first | (cases h; done) | (injection h with h; subst h; decide)
theorem refAt_ne {l x : List UInt8} {k : Nat} (h : refAt l = some (x, k)) : x ≠ [] := by
  unfold refAt at h
  split at h
  · obtain ⟨y, hy, hk⟩ := Option.map_eq_some_iff.1 h
    injection hk with h1 h2
    subst h1
    unfold meantL at hy
    split at hy
    · exact numL_ne hy
    · split at hy
      · exact numL_ne hy
      · exact nameL_ne hy
  · cases h
theorem dec_ne (c : UInt8) (l : List UInt8) : decL (c :: l) ≠ [] := by
  by_cases hc : c = 38
  · subst hc
    cases h : refAt (38 :: l) with
    | none => rw [decL_none _ _ h]; simp
    | some p =>
      obtain ⟨x, k⟩ := p
      have hk := refAt_len h
      obtain ⟨j, rfl⟩ : ∃ j, k = j + 1 := ⟨k - 1, by omega⟩
      rw [decL_some _ _ _ h]
      intro e
      exact refAt_ne h (List.append_eq_nil_iff.1 e).1
  · rw [decL_plain _ _ hc]; simp
theorem textV_ne (h : ByteArray) (c : UInt8) (l : List UInt8) : (textV h (bts (c :: l))).toList ≠ [] := by
  rw [ByteArray.toList_eq]
  unfold textV
  repeat' split
  all_goals first
    | (rw [bts_data]; simp)
    | (unfold decS; rw [bts_data]; exact dec_ne c l)
/-- No two texts side by side, none empty; is the one ahead a text? -/
def good : Bool → List S30 → Prop
  | _, [] => True
  | p, t :: ts => (t.f0 = 0 → p = false ∧ t.f2.toList ≠ []) ∧ good (t.f0 == 0) ts
def lastT (p : Bool) (ts : List S30) : Bool := match ts.getLast? with
  | none => p
  | some t => t.f0 == 0
theorem good_app : ∀ (a b : List S30) (p : Bool), good p (a ++ b) ↔ good p a ∧ good (lastT p a) b
  | [], b, p => by simp [good, lastT]
  | t :: a, b, p => by
    show (_ ∧ good (t.f0 == 0) (a ++ b)) ↔ (_ ∧ good (t.f0 == 0) a) ∧ _
    rw [good_app a b]
    have : lastT p (t :: a) = lastT (t.f0 == 0) a := by
      unfold lastT
      cases a with
      | nil => rfl
      | cons x a => rw [List.getLast?_cons_cons]; cases h : (x :: a).getLast? with
        | none => simp at h
        | some y => rfl
    rw [this]
    constructor
    · rintro ⟨h1, h2, h3⟩; exact ⟨⟨h1, h2⟩, h3⟩
    · rintro ⟨⟨h1, h2⟩, h3⟩; exact ⟨h1, h2, h3⟩
theorem good_txt (h : ByteArray) (b : List UInt8) : good false (txtL h b) := by
  cases b with
  | nil => exact trivial
  | cons c l => exact ⟨fun _ => ⟨rfl, textV_ne h c l⟩, trivial⟩
theorem good_told (out : List S30) (h : ByteArray) (b : List UInt8) (t : S30) (hg : good false out) (hl : lastT false out = false) (ht : t.f0 ≠ 0) : good false (out ++ txtL h b ++ [t]) ∧ lastT false (out ++ txtL h b ++ [t]) = false := by
  refine ⟨?_, ?_⟩
  · rw [good_app, good_app, hl]
    exact ⟨⟨hg, good_txt h b⟩, fun e => absurd e ht, trivial⟩
  · unfold lastT
    rw [List.getLast?_concat]
    show (t.f0 == 0) = false
    simpa using ht
theorem tagL_kind (ats : List S47) (s : St) : (tagL ats s).f0 ≠ 0 := by
  unfold tagL
  by_cases h1 : s.pos = 22
  · rw [if_pos h1]; exact (by decide : (2 : Int) ≠ 0)
  rw [if_neg h1]
  by_cases h2 : s.fin = true
  · rw [if_pos h2]; exact (by decide : (2 : Int) ≠ 0)
  · rw [if_neg h2]; exact (by decide : (1 : Int) ≠ 0)
theorem good_step (m : Mc) (c : UInt8) (hg : good false m.out) (hl : lastT false m.out = false) : good false (stepM m c).out ∧ lastT false (stepM m c).out = false := by
  unfold stepM
  simp only []
  split
  · exact ⟨hg, hl⟩
  · split
    · exact good_told _ _ _ _ hg hl (tagL_kind _ _)
    · split
      · exact good_told _ _ _ _ hg hl (by show (3 : Int) ≠ 0; decide)
      · exact ⟨hg, hl⟩
theorem good_run : ∀ (l : List UInt8) (m : Mc), good false m.out → lastT false m.out = false → good false (runM m l).out ∧ lastT false (runM m l).out = false
  | [], _, hg, hl => ⟨hg, hl⟩
  | c :: l, m, hg, hl => by
    obtain ⟨h1, h2⟩ := good_step m c hg hl
    exact good_run l _ h1 h2
theorem good_tokens (l : List UInt8) : good false (tokensM l).1 := by
  unfold tokensM
  split
  · exact trivial
  · obtain ⟨h1, h2⟩ := good_run (linesL l) m0 trivial rfl
    show good false (endM (runM m0 (linesL l)))
    unfold endM
    rw [good_app, h2]
    exact ⟨h1, good_txt _ _⟩
theorem good_at : ∀ (ts : List S30) (p : Bool), good p ts → ∀ i (h : i < ts.length), ts[i].f0 = 0 → ts[i].f2.toList ≠ [] ∧ ∀ (h0 : 0 < i), (ts[i - 1]'(by omega)).f0 ≠ 0
  | [], _, _, i, h, _ => by simp at h
  | t :: ts, p, hg, 0, h, he => ⟨(hg.1 he).2, fun h0 => absurd h0 (by omega)⟩
  | t :: ts, p, hg, i + 1, h, he => by
    have hi : i < ts.length := by simpa using h
    obtain ⟨h1, h2⟩ := good_at ts _ hg.2 i hi he
    refine ⟨h1, fun _ => ?_⟩
    cases i with
    | zero =>
      show t.f0 ≠ 0
      intro e
      cases ts with
      | nil => simp at hi
      | cons x ts =>
        have := (hg.2.1 he).1
        rw [e] at this; simp at this
    | succ i => exact h2 (by omega)
/-- A text without signs of tags and references. -/
theorem plain_tokens (l : List UInt8) (hs : l.length ≤ 65536) (h : ∀ b ∈ l, b ≠ 60 ∧ b ≠ 38 ∧ b ≠ 13) : tokensM l = (txtL ⟨#[]⟩ l, 0) := by
  unfold tokensM
  rw [if_neg (by omega), lines_none l (fun b hb => (h b hb).2.2), run_data m0 l rfl (fun b hb => (h b hb).1)]
  show (([] : List S30) ++ txtL ⟨#[]⟩ (if restB (atS 0) = true then ([] : List UInt8) ++ ([] ++ l) else []), (0 : Int)) = _
  rw [show restB (atS 0) = true from rfl, if_pos rfl]; rfl
def okB (b : UInt8) : Bool := b != 60 && (b != 38 && b != 13)
theorem bt_ne (b : UInt8) (n : Nat) (hn : n < 256) : (((b.toNat : Nat) : Int) = (n : Int)) ↔ b = UInt8.ofNat n := by
  rw [← u8_eq b n hn]; omega
theorem l0_ev (s : ByteArray) (ts : List S30) (hs : s.size ≤ 140737488351232) (r : Bool) : ∀ (l : List UInt8) (i : Nat) (f : Bool), s.data.toList.drop i = l → i ≤ s.size →
    Ev (fun k => stolelaw5_TokenTexts.l1 k s ts (f && l.all okB) 0) r → Ev (fun k => stolelaw5_TokenTexts.l0 k s ts f (i : Int)) r := by
  intro l
  induction l with
  | nil =>
    intro i f hd hi h
    have he := drop_end s i hi hd
    refine Ev.step (f := fun k => _) (fun k => by rw [stolelaw5_TokenTexts.l0]) ?_
    refine Ev.neg (by omega) ?_
    rw [List.all_nil, Bool.and_true] at h
    exact h
  | cons c l ih =>
    intro i f hd hi h
    have hlt := drop_lt s i hd
    have hbt := bt_drop s i hd
    have hnx := drop_next s i hd
    have hwr : wrap64 ((i : Int) + 1) = ((i + 1 : Nat) : Int) := wrap_next (n := s.size) hlt (by omega)
    refine Ev.step (f := fun k => _) (fun k => by rw [stolelaw5_TokenTexts.l0]) ?_
    refine Ev.pos (by omega) ?_
    rw [hwr, hbt]
    cases f with
    | false =>
      refine Ev.neg (by simp) ?_
      exact ih (i + 1) false hnx (by omega) (by simpa using h)
    | true =>
      refine Ev.pos rfl (Ev.pos (by omega) ?_)
      by_cases h1 : c = 60
      · refine Ev.pos ((bt_ne c 60 (by decide)).2 h1) (ih (i + 1) false hnx (by omega) ?_)
        have : okB c = false := by rw [h1]; rfl
        rw [List.all_cons, this] at h; simpa using h
      refine Ev.neg (fun e => h1 ((bt_ne c 60 (by decide)).1 e)) ?_
      by_cases h2 : c = 38
      · refine Ev.pos ((bt_ne c 38 (by decide)).2 h2) (ih (i + 1) false hnx (by omega) ?_)
        have : okB c = false := by rw [h2]; rfl
        rw [List.all_cons, this] at h; simpa using h
      refine Ev.neg (fun e => h2 ((bt_ne c 38 (by decide)).1 e)) ?_
      have e3 : ((((c.toNat : Nat) : Int)) != 13) = okB c := by
        unfold okB
        rw [show (c != 60) = true by simpa using h1, show (c != 38) = true by simpa using h2, Bool.true_and, Bool.true_and]
        by_cases h3 : c = 13
        · subst h3; rfl
        · rw [show (c != 13) = true by simpa using h3]
          have := fun e => h3 ((bt_ne c 13 (by decide)).1 e)
          simpa using this
      rw [e3]
      refine ih (i + 1) (okB c) hnx (by omega) ?_
      rw [List.all_cons, Bool.true_and] at h
      exact h
theorem rdT (ts : List S30) (i : Nat) (h : i < ts.length) : rd_T30 ts (i : Int) = ts[i] := by simp [rd_T30, List.getD_eq_getElem?_getD, List.getElem?_eq_getElem h]
theorem l1_ev (s : ByteArray) (ts : List S30) (f : Bool) (hg : good false ts) (hn : ts.length ≤ 4611686018427387904)
    (hf : f = true → (s.toList = [] → ts = []) ∧ (s.toList ≠ [] → ∃ t, ts = [t] ∧ t.f0 = 0 ∧ t.f2.toList = s.toList)) : ∀ (d i : Nat), i + d = ts.length → Ev (fun k => stolelaw5_TokenTexts.l1 k s ts f (i : Int)) true := by
  intro d
  induction d with
  | zero =>
    intro i hi
    refine Ev.step (f := fun k => _) (fun k => by rw [stolelaw5_TokenTexts.l1]) ?_
    refine Ev.neg (by omega) ?_
    cases f with
    | false => exact Ev.neg (by simp) (Ev.now true)
    | true =>
      obtain ⟨h1, h2⟩ := hf rfl
      refine Ev.pos rfl ?_
      by_cases hs : s.toList = []
      · refine Ev.pos hs ?_
        rw [h1 hs]
        exact Ev.pos rfl (Ev.now true)
      · obtain ⟨t, rfl, ht0, ht2⟩ := h2 hs
        refine Ev.neg hs (Ev.pos rfl (Ev.pos (by show (0 : Int) < 1; decide) ?_))
        have hr : rd_T30 [t] 0 = t := rfl
        rw [hr]
        refine Ev.pos ht0 (Ev.cast (Ev.now _) ?_)
        rw [ht2]; simp
  | succ d ih =>
    intro i hi
    have hlt : i < ts.length := by omega
    have hwr : wrap64 ((i : Int) + 1) = ((i + 1 : Nat) : Int) := wrap_next (n := ts.length) hlt hn
    have hnext := ih (i + 1) (by omega)
    refine Ev.step (f := fun k => _) (fun k => by rw [stolelaw5_TokenTexts.l1]) ?_
    refine Ev.pos (by omega) ?_
    rw [hwr, rdT ts i hlt]
    by_cases h0 : 0 < i
    · refine Ev.pos (by omega) (Ev.pos (by omega) ?_)
      have hw1 : wrap64 ((i : Int) - 1) = ((i - 1 : Nat) : Int) := by unfold wrap64; omega
      rw [hw1, rdT ts (i - 1) (by omega)]
      by_cases hk : ts[i].f0 = 0
      · obtain ⟨g1, g2⟩ := good_at ts false hg i hlt hk
        exact Ev.pos hk (Ev.pos (by omega) (Ev.pos (by omega) (Ev.neg (g2 h0) (Ev.neg g1 hnext))))
      · exact Ev.neg hk hnext
    · refine Ev.neg (by omega) (Ev.pos (by omega) ?_)
      by_cases hk : ts[i].f0 = 0
      · obtain ⟨g1, g2⟩ := good_at ts false hg i hlt hk
        exact Ev.pos hk (Ev.neg g1 hnext)
      · exact Ev.neg hk hnext
theorem num_f (x : Int) : stolelaw0_Num.f x = some x := rfl
theorem tokens_len (l : List UInt8) : (tokensM l).1.length ≤ 1000000 := by
  have hb : ∀ b : ByteArray, (tokensF b).1.length ≤ 1000000 := by
    intro b
    unfold tokensF
    split
    · simp
    · rename_i h
      have h1 := mach_inv (linesB b) (linesB b).size (Nat.le_refl _)
      have h2 := lines_sz b
      have h3 := h1.out
      show (restR _ _ _).out.length ≤ _
      unfold restR
      split
      · have := (textR_out (linesB b) (mach (linesB b) (linesB b).size).1 (linesB b).size).1; omega
      · have := (textR_out (linesB b) (mach (linesB b) (linesB b).size).1 (mach (linesB b) (linesB b).size).1.op).1; omega
  have := hb (bts l)
  rw [tokens_eq, bts_data] at this
  exact this
theorem tokenTexts_plain (a0 : ByteArray) (h0 : a0.size ≤ 140737488351232) : ∃ k, stolelaw5_TokenTexts.f k a0 = some true := by
  refine Ev.rounds ?_
  refine Ev.congr (f := fun k => _) (fun k => by rw [stolelaw5_TokenTexts.f]) ?_
  refine Ev.bind awake_ev ?_
  refine Ev.pos rfl (Ev.bindC (toks_b a0) ?_)
  obtain ⟨ts, e, he⟩ : ∃ ts e, tokensM a0.data.toList = (ts, e) := ⟨_, _, rfl⟩
  rw [he]
  refine Ev.bindC (num_f e) ?_
  have hsz : a0.size = a0.data.toList.length := rfl
  by_cases hl : 65536 < a0.data.toList.length
  · have h2 : (ts, e) = ([], 500) := by rw [← he]; unfold tokensM; rw [if_pos hl]
    injection h2 with h3 h4
    refine Ev.neg (by rw [h4]; decide) (Ev.cast (Ev.now _) (decide_eq_true (by omega)))
  · have h2 : e = 0 := by
      have : (tokensM a0.data.toList).2 = 0 := by unfold tokensM; rw [if_neg hl]
      rw [he] at this; exact this
    refine Ev.pos h2 ?_
    have hg := good_tokens a0.data.toList
    have hn := tokens_len a0.data.toList
    rw [he] at hg hn
    refine l0_ev a0 ts h0 true _ 0 true rfl (Nat.zero_le _) ?_
    rw [List.drop_zero, Bool.true_and]
    refine l1_ev a0 ts _ hg (by show ts.length ≤ _; have : ts.length ≤ 1000000 := hn; omega) ?_ ts.length 0 (by omega)
    intro hall
    have hP : ∀ b ∈ a0.data.toList, b ≠ 60 ∧ b ≠ 38 ∧ b ≠ 13 := by
      intro b hb
      have := List.all_eq_true.1 hall b hb
      unfold okB at this
      simpa using this
    have hpt := plain_tokens a0.data.toList (by omega) hP
    rw [he] at hpt
    injection hpt with hts _
    rw [list_eq]
    refine ⟨fun h => by rw [hts, h]; rfl, fun h => ?_⟩
    refine ⟨⟨0, ⟨#[]⟩, bts a0.data.toList, [], false⟩, by rw [hts]; exact txt_ne _ _ h (fun b hb => (hP b hb).2.1), rfl, ?_⟩
    show (bts a0.data.toList).toList = _
    rw [list_eq, bts_data]
end Go.Proofs.YtgbaakopneldaaaDoor.P5
end
section
namespace Go.Proofs.YtgbaakopneldaaaDoor.RowTokenTexts
open Go.ChangeShapes Go.WideShapes Go.ChangeAt Go.RowKit Go.Proofs.YtgbaakopneldaaaDoorW.PrintWords Go.Proofs.YtgbaakopneldaaaDoorW.PrintLast Go.Proofs.YtgbaakopneldaaaDoor.ExtM
open Go.ChangeMaps (open_string shut_string)
set_option linter.unusedVariables false
theorem own : ownKnob Tryd.prog.godebug = none := by kernel_rfl
set_option maxRecDepth 100000 in
set_option maxHeartbeats 4000000 in
theorem contract (H : Type) (enc : TypeId × Value → H) (W : World) (base : Nat) (args : Array Value) (ds gs : List (DataW H)) (before : List MemPlace)
    (hval0 : ∀ (j : Nat) t v, Tryd.f3.params[j]? = some t → args[j]? = some v → Value.okWide Tryd.prog W .any base t v)
    (hW : DataW.Whole enc Tryd.prog Tryd.f3.params.toList Rows.tokenTextsSpec.vars false W args.toList ds gs before)
    (hsz0 : (DataW.weightsEach Tryd.prog (Tryd.f3.params.toList ++ Rows.tokenTextsSpec.plain.varTypes Tryd.prog) (ds ++ gs)).all (· ≤ reachBytes) = true)
    (hL : laidMetH Tryd.prog Rows.tokenTextsRow.laid W)
    (hsh : W.ShapedOpen Tryd.prog)
    : Calls Tryd.prog 3 args W fun e W' => ∃ v, e = .returned v ∧ Rows.tokenTextsSpec.post enc Tryd.prog Tryd.f3 false true false false W args v W' := by
  have hsz : (DataW.weightsEach Tryd.prog (Tryd.f3.params.toList ++ Rows.tokenTextsSpec.plain.varTypes Tryd.prog) (ds ++ gs)).all (· ≤ reachBytes) = true := hsz0
  have hval : ∀ (j : Nat) t v, Tryd.f3.params[j]? = some t → args[j]? = some v → Value.okWide Tryd.prog W .any base t v := hval0
  have hW' := hW
  obtain ⟨p, q, hA0, hV, rfl, hfz, hnd⟩ := hW
  have hA : DataW.TrodAll enc Tryd.prog W 0 (fun _ => true) true Tryd.f3.params.toList args.toList ds p := hA0
  rw [Tryd.params3] at hA hval hsz
  obtain ⟨v0, vs0, d0, ds0, p0, q0, hargs, rfl, rfl, h0, r0⟩ := trodAll_cons hA
  obtain ⟨rfl, rfl, rfl⟩ := trodAll_nil r0
  obtain rfl : args = #[v0] := by cases args; simp_all
  obtain ⟨rfl, rfl⟩ := trodVars_none hV
  obtain ⟨a0, rfl, rfl, rfl, y0⟩ := open_string Tryd.underlying9 (hval 0 9 v0 rfl rfl) h0
  have w0 : a0.size ≤ 140737488351232 := by
    have z := sized_string hsz (j := 0) (t := 9) rfl rfl
    rw [Array.length_toList] at z
    exact z
  clear hA0 hval0 hsz0 hsz hval
  have hT : Tabs W := Tryd.laysM143.s1_3 W hsh
  obtain ⟨k, hk⟩ := P5.tokenTexts_plain a0 w0
  refine (XL.stolelaw5_TokenTexts.calls k a0 true W hT hk rfl).mono fun e W' ⟨he, bel0⟩ => ?_
  have bel : Below W.heap.size W W' := bel0
  subst he
  simp only [List.append_nil] at hW'
  exact ⟨_, rfl, _, _, _, [], _, [], hW', trodAll_mk1 (shut_bool Tryd.underlying4 _), (trodAll_cons_mk (shut_string Tryd.underlying9 y0) trodAll_mk0), rfl, bel.frame _, fun h => by cases h⟩
theorem laid_met (os : Os) : laidMetH Tryd.prog Rows.tokenTextsRow.laid ((World.laidAll Tryd.prog os Rows.tokenTextsRow.laid).forCall (fun _ _ => 0) ⟨#[], #[.string ByteArray.empty], []⟩).memory := by
  rw [MakeChecks.laidMetH_plain _ _ _ (by kernel_rfl)]
  exact laidMet_laidAll _ (by kernel_rfl) (by kernel_rfl)
theorem reads (os : Os) {H : Type} (enc : TypeId × Value → H) : ∃ places, DataW.whole enc Tryd.prog ((World.laidAll Tryd.prog os Rows.tokenTextsRow.laid).forCall (fun _ _ => 0) ⟨#[], #[.string ByteArray.empty], []⟩).memory Tryd.f3.params.toList Rows.tokenTextsSpec.vars false (#[.string ByteArray.empty] : Array Value).toList 8 = some ([.lit (.string [])], [], places) :=
  ⟨[], by kernel_rfl⟩
set_option maxRecDepth 100000 in
theorem lifted (os : Os) (started : os.Started) (H : Type) (enc : TypeId × Value → H) (F : Stop.Interp) :
    ReturnsInHanded {} Tryd.checked os 3 .any ((OpenSpec.ofChange Rows.tokenTextsSpec).preRow enc Tryd.prog Tryd.f3 Rows.tokenTextsRow.domain false Rows.tokenTextsRow.laid) (((OpenSpec.ofChange Rows.tokenTextsSpec).at F).post enc Tryd.prog Tryd.f3 false true false false) := by
  obtain ⟨places, hx⟩ := reads os enc
  refine returnsInHanded_of_row (C := Tryd.checked) (s := (OpenSpec.ofChange Rows.tokenTextsSpec)) own started (by kernel_rfl) Tryd.func3
    (witness_row_at (enc := enc) (C := Tryd.checked) false (World.laidAll Tryd.prog os Rows.tokenTextsRow.laid) #[.string ByteArray.empty] (World.laidAll_os _ _ _) (by kernel_rfl) (by kernel_rfl) (by kernel_rfl)
      (OpenSpec.preRow_of_cond 8 hx (by kernel_rfl) (fun k hk => by cases hk) (by kernel_rfl) (laid_met os))) ?_
  intro W base args ds gs before hval hW hcnd hcond hsz hL hsh _
  exact contract H enc W base args ds gs before hval hW hsz hL hsh
theorem said : Rows.TokenTextsSaid :=
  OpenClaim.holds_of_cond 3 Tryd.f3 rfl rfl rfl rfl rfl rfl rfl ⟨rfl, rfl, rfl, rfl, rfl⟩ rfl rfl rfl rfl rfl (by kernel_rfl) Tryd.func3 (by kernel_rfl)
    (of_decide_eq_true (by kernel_rfl)) (by unfold Func.isWrapper; first | (rw [if_pos (by decide +kernel)]; kernel_rfl) | (rw [if_neg (by decide +kernel)]; exact ⟨rfl, rfl⟩))
    (fun os started H enc _ F => by rw [OpenClaim.pre_eq_preRow]; exact lifted os started H enc F)
theorem plain (f : FuncId) (fn : Func) (hf : Tryd.pinned.checked.prog.funcNamed "stole/stolelaw5.TokenTexts" = some f) (hfn : Tryd.pinned.checked.prog.funcs[f]? = some fn) :
    false = Tryd.pinned.checked.prog.looks [] ∧ ∀ (j : Nat) t, fn.params[j]? = some t → Tryd.pinned.checked.prog.wantsStandIn t = false := by
  obtain rfl : f = 3 := Option.some.inj ((show Tryd.prog.funcNamed "stole/stolelaw5.TokenTexts" = some 3 by kernel_rfl).symm.trans hf) |>.symm
  obtain rfl : fn = Tryd.f3 := (Option.some.inj (Tryd.func3.symm.trans hfn)).symm
  refine ⟨by kernel_rfl, fun j t ht => ?_⟩
  rw [Tryd.params3] at ht
  have hm := Array.mem_of_getElem? ht
  have hall : (#[9] : Array TypeId).all (fun t => Tryd.prog.wantsStandIn t == false) = true := by kernel_rfl
  rw [Array.all_eq_true'] at hall
  exact eq_of_beq (hall t hm)
theorem proved : Rows.TokenTextsCardSaid :=
  Claim7.holds_tied_plain_at .later [] _ _ _ _ said (fun _ h => by cases h) (by kernel_rfl) (fun _ h => by cases h) tokenTexts_row_tie rfl ⟨rfl, rfl⟩ (by kernel_rfl) rfl plain (by kernel_rfl)
end Go.Proofs.YtgbaakopneldaaaDoor.RowTokenTexts
namespace Go.Proofs.YtgbaakopneldaaaDoor
theorem tokenTexts_holds : Rows.TokenTextsCardSaid := RowTokenTexts.proved
#print axioms tokenTexts_holds
end Go.Proofs.YtgbaakopneldaaaDoor
end
