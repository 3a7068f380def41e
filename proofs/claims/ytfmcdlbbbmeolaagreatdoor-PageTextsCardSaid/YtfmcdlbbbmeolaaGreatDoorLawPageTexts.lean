/- The law stole/stolelaw8.PageTexts returns true at every input of its types, and its arguments read behind the call as before. The listed package-level variables are tied to the program's text. No further condition. stolelaw8's awake: true; PageTexts, plain. Laid by xprint.py, a program of this session over the kit's print: for each Go function one Lean function of the same answers, and the walk that shows it. -/
import Derived.Test.YtfmcdlbbbmeolaaGreatDoorP0
import Derived.Test.YtfmcdlbbbmeolaaGreatDoorP17
import Derived.Test.YtfmcdlbbbmeolaaGreatDoorP18
import Derived.Test.YtfmcdlbbbmeolaaGreatDoorCards
import Derived.Test.YtfmcdlbbbmeolaaGreatDoorTie
import Derived.WalkKit
import Derived.ProofKit
import Derived.OpenShut
import Derived.ShutString
import Derived.ChangeOld
import Derived.Below
import Derived.SizedLaws
import Derived.Deep.DeepHandedRow
import Derived.LaidMore
import Derived.Lay
import Derived.SevenTiedAt
section
namespace Go.Proofs.YtfmcdlbbbmeolaaGreatDoor.XP
open Go.RowKit Go.Proofs.YtfmcdlbbbmeolaaGreatDoor.ExtP Go.Proofs.YtfmcdlbbbmeolaaGreatDoor.XK Go.Proofs.YtfmcdlbbbmeolaaGreatDoorW.PrintWords Go.Proofs.YtfmcdlbbbmeolaaGreatDoorW.PrintLast Go.Proofs.YtfmcdlbbbmeolaaGreatDoorW.PrintMore
attribute [local go_sem] max2_int min2_int max_two min_two max_three min_three max_four min_four   -- for this text's walks alone
set_option linter.unusedVariables false
set_option linter.unusedSimpArgs false
/-! ### stolelaw8_PageTexts: function 6 -/
mutual
def stolelaw8_PageTexts.l0 : Nat → ByteArray → ByteArray → ByteArray → Int → ByteArray → Int → Option (Bool)
 | 0, _, _, _, _, _, _ => none
 | k + 1, x0, x1, x7, x8, x9, x10 => if x10 < (x1.size : Int) then (stolelaw8_PageTexts.j1 k x0 x1 x7 x8 x9 x10 (decide (x10 < 40))) else (stolelaw8_PageTexts.j1 k x0 x1 x7 x8 x9 x10 false)
def stolelaw8_PageTexts.j1 : Nat → ByteArray → ByteArray → ByteArray → Int → ByteArray → Int → Bool → Option (Bool)
 | 0, _, _, _, _, _, _, _ => none
 | k + 1, x0, x1, x7, x8, x9, x10, x40 => if x40 = true then (if 0 ≤ x10 then (if x10 < (x1.size : Int) then (if (bt x1 x10) = 60 then (stolelaw8_PageTexts.l0 k x0 x1 x7 x8 x9 (wrap64 (x10 + 1))) else (if (bt x1 x10) = 62 then (stolelaw8_PageTexts.l0 k x0 x1 x7 x8 x9 (wrap64 (x10 + 1))) else ((some (([bt x1 x10] : List Int) : List Int)).bind fun y151 => (if x9.size + (strOfNums y151).size ≤ 9223372036854775807 then (stolelaw8_PageTexts.l0 k x0 x1 x7 x8 (x9 ++ (strOfNums y151)) (wrap64 (x10 + 1))) else (none))))) else (none)) else (none)) else (if 1 + x9.size ≤ 9223372036854775807 then (if 1 + x9.size + x0.size ≤ 9223372036854775807 then ((page_Parse.f (((⟨#[120]⟩ : ByteArray) ++ x9) ++ x0)).bind fun bt154 => ((page_Skeleton.f bt154.1).bind fun bt158 => ((stolelaw0_Num.f x8).bind fun t160 => (if t160 = 0 then ((stolelaw0_Num.f bt154.2).bind fun t161 => (if t161 = 0 then ((stolelaw0_Num.f bt158.2).bind fun t162 => (if t162 = 0 then (some (x7.toList == bt158.1.toList)) else (some false))) else (some true))) else (some false))))) else (none)) else (none))
end
def stolelaw8_PageTexts.f (k : Nat) (a0 : ByteArray) (a1 : ByteArray) : Option (Bool) := (stolelaw8_awake.f k).bind fun t143 => (if t143 = true then ((page_Parse.f a0).bind fun bt144 => ((stolelaw0_Num.f bt144.2).bind fun t148 => (if t148 = 0 then ((page_Skeleton.f bt144.1).bind fun bt149 => (stolelaw8_PageTexts.l0 k a0 a1 bt149.1 bt149.2 (⟨#[]⟩ : ByteArray) 0)) else (some ((bt144.1.length : Int) == 0))))) else (some false))
theorem stolelaw8_PageTexts.mono_l : ∀ k, (∀ y0 y1 y2 y3 y4 y5, LeO (stolelaw8_PageTexts.l0 k y0 y1 y2 y3 y4 y5) (stolelaw8_PageTexts.l0 (k + 1) y0 y1 y2 y3 y4 y5)) ∧ (∀ y0 y1 y2 y3 y4 y5 y6, LeO (stolelaw8_PageTexts.j1 k y0 y1 y2 y3 y4 y5 y6) (stolelaw8_PageTexts.j1 (k + 1) y0 y1 y2 y3 y4 y5 y6))
 | 0 => ⟨fun _ _ _ _ _ _ r h => by simp [stolelaw8_PageTexts.l0] at h, fun _ _ _ _ _ _ _ r h => by simp [stolelaw8_PageTexts.j1] at h⟩
 | k + 1 => by
  obtain ⟨ih0, ih1⟩ := stolelaw8_PageTexts.mono_l k
  refine ⟨?_, ?_⟩
  ·intro y0 y1 y2 y3 y4 y5
   unfold stolelaw8_PageTexts.l0
   repeat' first
   | (with_reducible exact ih0 _ _ _ _ _ _)
   | (with_reducible exact ih1 _ _ _ _ _ _ _)
   | (with_reducible exact stolelaw8_awake.mono _)
   | (with_reducible exact LeO.refl _)
   | (with_reducible exact LeO.none _)
   | (with_reducible refine LeO.ite ?_ ?_)
   | (with_reducible refine LeO.bind ?_ (fun _ => ?_))
   | exact ih0 _ _ _ _ _ _
   | exact ih1 _ _ _ _ _ _ _
   | exact stolelaw8_awake.mono _
   | exact LeO.none _
   | refine LeO.ite ?_ ?_
   | refine LeO.bind ?_ (fun _ => ?_)
  ·intro y0 y1 y2 y3 y4 y5 y6
   unfold stolelaw8_PageTexts.j1
   repeat' first
   | (with_reducible exact ih0 _ _ _ _ _ _)
   | (with_reducible exact ih1 _ _ _ _ _ _ _)
   | (with_reducible exact stolelaw8_awake.mono _)
   | (with_reducible exact LeO.refl _)
   | (with_reducible exact LeO.none _)
   | (with_reducible refine LeO.ite ?_ ?_)
   | (with_reducible refine LeO.bind ?_ (fun _ => ?_))
   | exact ih0 _ _ _ _ _ _
   | exact ih1 _ _ _ _ _ _ _
   | exact stolelaw8_awake.mono _
   | exact LeO.none _
   | refine LeO.ite ?_ ?_
   | refine LeO.bind ?_ (fun _ => ?_)
theorem stolelaw8_PageTexts.mono : ∀ a0 a1 k, LeO (stolelaw8_PageTexts.f k a0 a1) (stolelaw8_PageTexts.f (k + 1) a0 a1) := by
 intro a0 a1 k
 obtain ⟨ih0, ih1⟩ := stolelaw8_PageTexts.mono_l k
 unfold stolelaw8_PageTexts.f
 repeat' first
   | (with_reducible exact ih0 _ _ _ _ _ _)
   | (with_reducible exact ih1 _ _ _ _ _ _ _)
   | (with_reducible exact stolelaw8_awake.mono _)
   | (with_reducible exact LeO.refl _)
   | (with_reducible exact LeO.none _)
   | (with_reducible refine LeO.ite ?_ ?_)
   | (with_reducible refine LeO.bind ?_ (fun _ => ?_))
   | exact ih0 _ _ _ _ _ _
   | exact ih1 _ _ _ _ _ _ _
   | exact stolelaw8_awake.mono _
   | exact LeO.none _
   | refine LeO.ite ?_ ?_
   | refine LeO.bind ?_ (fun _ => ?_)
set_option maxHeartbeats 8000000 in
set_option maxRecDepth 100000 in
theorem stolelaw8_PageTexts.calls (k : Nat) (a0 : ByteArray) (a1 : ByteArray) (r : Bool) (w : World) (hT : Tabs w) (h : stolelaw8_PageTexts.f k a0 a1 = some r) (hr : r = true) :
  Calls Tryz.prog 6 #[.string a0, .string a1] w fun e w' => e = .returned (.bool r) ∧ Below w.heap.size w w' := by
 have HT := Aside0.mk hT
 clear hT
 have HB := Aside0.mk (Below.refl w.heap.size w)
 have H : ((stolelaw8_awake.f k).bind fun t143 => (if t143 = true then ((page_Parse.f a0).bind fun bt144 => ((stolelaw0_Num.f bt144.2).bind fun t148 => (if t148 = 0 then ((page_Skeleton.f bt144.1).bind fun bt149 => (stolelaw8_PageTexts.l0 k a0 a1 bt149.1 bt149.2 (⟨#[]⟩ : ByteArray) 0)) else (some ((bt144.1.length : Int) == 0))))) else (some false))) = some r := h
 clear h
 replace H := Option.bind_eq_some_iff.mp H
 obtain ⟨t143, A30, H⟩ := H
 replace H : (if t143 = true then ((page_Parse.f a0).bind fun bt144 => ((stolelaw0_Num.f bt144.2).bind fun t148 => (if t148 = 0 then ((page_Skeleton.f bt144.1).bind fun bt149 => (stolelaw8_PageTexts.l0 k a0 a1 bt149.1 bt149.2 (⟨#[]⟩ : ByteArray) 0)) else (some ((bt144.1.length : Int) == 0))))) else (some false)) = some r := H
 have A3 := Aside0.mk A30
 clear A30
 by_cases c4 : t143 = true
 ·subst c4
  have H1 : ((page_Parse.f a0).bind fun bt144 => ((stolelaw0_Num.f bt144.2).bind fun t148 => (if t148 = 0 then ((page_Skeleton.f bt144.1).bind fun bt149 => (stolelaw8_PageTexts.l0 k a0 a1 bt149.1 bt149.2 (⟨#[]⟩ : ByteArray) 0)) else (some ((bt144.1.length : Int) == 0))))) = some r := by rw [if_pos rfl] at H; exact H
  clear H
  have H := H1
  clear H1
  replace H := Option.bind_eq_some_iff.mp H
  obtain ⟨⟨t144, t145⟩, A50, H⟩ := H
  replace H : ((stolelaw0_Num.f t145).bind fun t148 => (if t148 = 0 then ((page_Skeleton.f t144).bind fun bt149 => (stolelaw8_PageTexts.l0 k a0 a1 bt149.1 bt149.2 (⟨#[]⟩ : ByteArray) 0)) else (some ((t144.length : Int) == 0)))) = some r := H
  have A5 := Aside0.mk A50
  clear A50
  replace H := Option.bind_eq_some_iff.mp H
  obtain ⟨t148, A60, H⟩ := H
  replace H : (if t148 = 0 then ((page_Skeleton.f t144).bind fun bt149 => (stolelaw8_PageTexts.l0 k a0 a1 bt149.1 bt149.2 (⟨#[]⟩ : ByteArray) 0)) else (some ((t144.length : Int) == 0))) = some r := H
  have A6 := Aside0.mk A60
  clear A60
  by_cases c7 : t148 = 0
  ·rw [if_pos c7] at H
   have c7b0 : (t148 == 0) = true := beq_iff_eq.mpr c7
   have c7b1 : (t148 != 0) = false := bne_eq_false_iff_eq.mpr c7
   clear c7
   replace H := Option.bind_eq_some_iff.mp H
   obtain ⟨⟨t149, t150⟩, A80, H⟩ := H
   replace H : (stolelaw8_PageTexts.l0 k a0 a1 t149 t150 (⟨#[]⟩ : ByteArray) 0) = some r := H
   have A8 := Aside0.mk A80
   clear A80
   have H' := Aside0.mk H
   clear H
   go_enter Tryz.func6, Tryz.ntmps6
   go_wp2_with (first | ((with_reducible refine gate_callee (f := 36) rfl ?_); refine goesL_ (some 15) rfl rfl Tryz.func36 (by kernel_rfl) rfl #[] rfl (by (try simp only [List.map_toArray, List.map_cons, List.map_nil]); first | done | rfl | (simp only [List.length_drop, List.length_take]; rfl)) ?_; (with_reducible refine (stolelaw8_awake.calls k  true _ (tabs_below HT.out (by repeat (first | (with_reducible first | exact HB.out | apply below_alloc | apply pw_below_drewN | apply below_drew1) | exact HB.out))) A3.out rfl).mono ?_); rintro e w9 ⟨rfl, hb⟩; refine ⟨_, rfl, ?_⟩; have n0_ := Aside0.mk (below_step (by repeat (first | (with_reducible first | exact HB.out | apply below_alloc | apply pw_below_drewN | apply below_drew1) | exact HB.out)) hb); clear HB; have HB := n0_; clear n0_; (try clear hb); (try clear hb2); (try clear hk); (try clear hi)) | ((with_reducible refine gate_callee (f := 27) rfl ?_); refine goesL_ (some 19) rfl rfl Tryz.func27 (by kernel_rfl) rfl #[.string a0] rfl (by (try simp only [List.map_toArray, List.map_cons, List.map_nil]); first | done | rfl | (simp only [List.length_drop, List.length_take]; rfl)) ?_; (with_reducible refine (page_Parse.calls a0 t144 t145 _ (tabs_below HT.out (by repeat (first | (with_reducible first | exact HB.out | apply below_alloc | apply pw_below_drewN | apply below_drew1) | exact HB.out))) A5.out).mono ?_); rintro e w10 ⟨v146, rfl, ho0, hb⟩; refine ⟨_, rfl, ?_⟩; have n0_ := Aside0.mk (Kd.S_lower ho0 (below_size (by repeat (first | (with_reducible first | exact HB.out | apply below_alloc | apply pw_below_drewN | apply below_drew1) | exact HB.out)))); have n1_ := Aside0.mk (below_step (by repeat (first | (with_reducible first | exact HB.out | apply below_alloc | apply pw_below_drewN | apply below_drew1) | exact HB.out)) hb); clear HB; have HO147 := n0_; have HB := n1_; clear n0_ n1_; (try clear hb); (try clear hb2); (try clear hk); (try clear hi); (try clear ho0)) | ((with_reducible refine gate_callee (f := 21) rfl ?_); refine goesL_ (some 23) rfl rfl Tryz.func21 (by kernel_rfl) rfl #[.int .i64 t145] rfl (by (try simp only [List.map_toArray, List.map_cons, List.map_nil]); first | done | rfl | (simp only [List.length_drop, List.length_take]; rfl)) ?_; (with_reducible refine (stolelaw0_Num.calls t145 t148 _ A6.out).mono ?_); rintro e w' ⟨rfl, ⟨nd, rfl⟩⟩; refine ⟨_, rfl, ?_⟩; obtain ⟨Ao11, co11, eo11⟩ := Kd.S_slice HO147.out; subst eo11) | ((with_reducible refine gate_callee (f := 29) rfl ?_); refine goesL_ (some 30) rfl rfl Tryz.func29 (by kernel_rfl) rfl #[.slice Ao11 t144.length co11] rfl (by (try simp only [List.map_toArray, List.map_cons, List.map_nil]); first | done | rfl | (simp only [List.length_drop, List.length_take]; rfl)) ?_; (with_reducible refine (page_Skeleton.calls _ _ t144 t149 t150 _ (tabs_below HT.out (by repeat (first | (with_reducible first | exact HB.out | apply below_alloc | apply pw_below_drewN | apply below_drew1) | exact HB.out))) ?side1 ?side2 A8.out).mono ?_); (case side1 => repeat (first | exact (Kd.S_reads' HO147.out).2.2 | (with_reducible refine Kd.C_alloc ?_ _) | (with_reducible refine Kd.C_drewN ?_ _) | (with_reducible refine Kd.C_drew ?_))); (case side2 => exact (Kd.S_reads' HO147.out).2.1); rintro e w12 ⟨rfl, hb⟩; refine ⟨_, rfl, ?_⟩; have n0_ := Aside0.mk (Kd.S_below (by (with_reducible repeat (first | apply Kd.S_alloc | apply Kd.S_drewN | apply Kd.S_drew)); exact HO147.out) hb); have n1_ := Aside0.mk (below_step (by repeat (first | (with_reducible first | exact HB.out | apply below_alloc | apply pw_below_drewN | apply below_drew1) | exact HB.out)) hb); clear HO147; clear HB; have HO147 := n0_; have HB := n1_; clear n0_ n1_; (try clear hb); (try clear hb2); (try clear hk); (try clear hi)))
   go_loopg [9, 10] k (fun kq v9 v10 w' => ∃ (x9_1 : ByteArray) (x10_1 : Int), v9 = .string x9_1 ∧ v10 = .int .i64 x10_1 ∧ Aside0 (stolelaw8_PageTexts.l0 kq a0 a1 t149 t150 x9_1 x10_1 = some r) ∧ Aside0 (kq ≤ k) ∧ Aside0 (Below w.heap.size w w'))
   case atStart => exact ⟨((⟨#[]⟩ : ByteArray)), (0), (by first | rfl | (simp; done) | (simp [*]; done)), (by first | rfl | (simp; done) | (simp [*]; done)), H', ⟨Nat.le_refl _⟩, ⟨by repeat (first | (with_reducible first | exact HB.out | apply below_alloc | apply pw_below_drewN | apply below_drew1) | exact HB.out)⟩⟩
   case round =>
    clear H'
    try clear c2
    try clear p2
    try clear c3
    try clear c4
    try clear c6
    try clear c7
    try clear c7b0
    try clear c7b1
    obtain ⟨x9_1, x10_1, rfl, rfl, HA, HK1, HB⟩ := hrel
    cases gk with
    | zero => exact absurd HA.out (by simp [stolelaw8_PageTexts.l0])
    | succ k1 =>
     have H := HA.out
     clear HA
     simp only [stolelaw8_PageTexts.l0] at H
     have HC13 := Aside0.mk H
     clear H
     go_upto_region 9 with (fail)
     go_cut [40] (fun v40 wc => ∃ (kq : Nat) (x40_12 : Bool), v40 = .bool x40_12 ∧ Aside0 (stolelaw8_PageTexts.j1 kq a0 a1 t149 t150 x9_1 x10_1 x40_12 = some r) ∧ Aside0 (kq ≤ k1) ∧ Aside0 (Below w.heap.size w wc))
     case first =>
      have H := HC13.out
      clear HC13
      by_cases c14 : x10_1 < (a1.size : Int)
      ·rw [if_pos c14] at H
       have c14b0 : decide (x10_1 < (a1.size : Int)) = true := decide_eq_true c14
       clear c14
       (first | rw [c14b0] | (simp only [i64_w, i32_w]; rw [c14b0]) | skip)
       have H' := Aside0.mk H
       clear H
       go_wp2
       go_meet
       case rel => exact ⟨_, (decide (x10_1 < 40)), (by first | rfl | (simp; done) | (simp [*]; done)), H', ⟨by have := HK1.out; first | omega | exact Nat.le_refl _⟩, ⟨by repeat (first | (with_reducible first | exact HB.out | apply below_alloc | apply pw_below_drewN | apply below_drew1) | exact HB.out)⟩⟩
      ·rw [if_neg c14] at H
       have c14b0 : decide (x10_1 < (a1.size : Int)) = false := decide_eq_false c14
       clear c14
       (first | rw [c14b0] | (simp only [i64_w, i32_w]; rw [c14b0]) | skip)
       have H' := Aside0.mk H
       clear H
       go_wp2
       go_meet
       case rel => exact ⟨_, (false), (by first | rfl | (simp; done) | (simp [*]; done)), H', ⟨by have := HK1.out; first | omega | exact Nat.le_refl _⟩, ⟨by repeat (first | (with_reducible first | exact HB.out | apply below_alloc | apply pw_below_drewN | apply below_drew1) | exact HB.out)⟩⟩
     case rest =>
      clear HC13
      try clear c1
      try clear c2
      try clear p2
      try clear c3
      try clear c4
      try clear c6
      try clear c7
      try clear c7b0
      try clear c7b1
      try clear c14
      try clear c14b0
      try clear p2
      obtain ⟨kq, x40_12, rfl, HA, HJ12, HB⟩ := hcut
      cases kq with
      | zero => exact absurd HA.out (by simp [stolelaw8_PageTexts.j1])
      | succ kj12 =>
       have H := HA.out
       clear HA
       simp only [stolelaw8_PageTexts.j1] at H
       by_cases c15 : x40_12 = true
       ·subst c15
        have H1 : (if 0 ≤ x10_1 then (if x10_1 < (a1.size : Int) then (if (bt a1 x10_1) = 60 then (stolelaw8_PageTexts.l0 kj12 a0 a1 t149 t150 x9_1 (wrap64 (x10_1 + 1))) else (if (bt a1 x10_1) = 62 then (stolelaw8_PageTexts.l0 kj12 a0 a1 t149 t150 x9_1 (wrap64 (x10_1 + 1))) else ((some (([bt a1 x10_1] : List Int) : List Int)).bind fun y151 => (if x9_1.size + (strOfNums y151).size ≤ 9223372036854775807 then (stolelaw8_PageTexts.l0 kj12 a0 a1 t149 t150 (x9_1 ++ (strOfNums y151)) (wrap64 (x10_1 + 1))) else (none))))) else (none)) else (none)) = some r := by rw [if_pos rfl] at H; exact H
        clear H
        have H := H1
        clear H1
        by_cases c16 : 0 ≤ x10_1
        ·rw [if_pos c16] at H
         have c16b0 : decide (0 ≤ x10_1) = true := decide_eq_true c16
         clear c16
         by_cases c17 : x10_1 < (a1.size : Int)
         ·rw [if_pos c17] at H
          have c17b0 : decide (x10_1 < (a1.size : Int)) = true := decide_eq_true c17
          clear c17
          by_cases c19 : (bt a1 x10_1) = 60
          ·rw [if_pos c19] at H
           have c19b0 : ((bt a1 x10_1) == 60) = true := beq_iff_eq.mpr c19
           have c19b1 : ((bt a1 x10_1) != 60) = false := bne_eq_false_iff_eq.mpr c19
           clear c19
           have H' := Aside0.mk H
           clear H
           have p18 : 0 ≤ (x10_1 : Int) := of_decide_eq_true (by first | (with_reducible assumption) | assumption)
           have q18 : x10_1 < (a1.size : Int) := of_decide_eq_true (by first | (with_reducible assumption) | assumption)
           have hx18 := bt_at a1 x10_1
           replace p18 := eq_true p18
           replace q18 := eq_true q18
           go_wp2
           go_roundg kj12
           case measure => have := HK1.out; have := HJ12.out; omega
           case rel => exact ⟨(x9_1), (wrap64 (x10_1 + 1)), (by first | rfl | (simp; done) | (simp [*]; done)), (by first | rfl | (simp; done) | (simp [*]; done)), H', ⟨by have := HK1.out; have := HJ12.out; omega⟩, ⟨by repeat (first | (with_reducible first | exact HB.out | apply below_alloc | apply pw_below_drewN | apply below_drew1) | exact HB.out)⟩⟩
          ·rw [if_neg c19] at H
           have c19b0 : ((bt a1 x10_1) == 60) = false := beq_eq_false_iff_ne.mpr c19
           have c19b1 : ((bt a1 x10_1) != 60) = true := bne_iff_ne.mpr c19
           by_cases c21 : (bt a1 x10_1) = 62
           ·rw [if_pos c21] at H
            have c21b0 : ((bt a1 x10_1) == 62) = true := beq_iff_eq.mpr c21
            have c21b1 : ((bt a1 x10_1) != 62) = false := bne_eq_false_iff_eq.mpr c21
            clear c21
            have H' := Aside0.mk H
            clear H
            have p18 : 0 ≤ (x10_1 : Int) := of_decide_eq_true (by first | (with_reducible assumption) | assumption)
            have q18 : x10_1 < (a1.size : Int) := of_decide_eq_true (by first | (with_reducible assumption) | assumption)
            have hx18 := bt_at a1 x10_1
            replace p18 := eq_true p18
            replace q18 := eq_true q18
            have p20 : 0 ≤ (x10_1 : Int) := of_decide_eq_true (by first | (with_reducible assumption) | assumption)
            have q20 : x10_1 < (a1.size : Int) := of_decide_eq_true (by first | (with_reducible assumption) | assumption)
            have hx20 := bt_at a1 x10_1
            replace p20 := eq_true p20
            replace q20 := eq_true q20
            go_wp2
            go_roundg kj12
            case measure => have := HK1.out; have := HJ12.out; omega
            case rel => exact ⟨(x9_1), (wrap64 (x10_1 + 1)), (by first | rfl | (simp; done) | (simp [*]; done)), (by first | rfl | (simp; done) | (simp [*]; done)), H', ⟨by have := HK1.out; have := HJ12.out; omega⟩, ⟨by repeat (first | (with_reducible first | exact HB.out | apply below_alloc | apply pw_below_drewN | apply below_drew1) | exact HB.out)⟩⟩
           ·rw [if_neg c21] at H
            have c21b0 : ((bt a1 x10_1) == 62) = false := beq_eq_false_iff_ne.mpr c21
            have c21b1 : ((bt a1 x10_1) != 62) = true := bne_iff_ne.mpr c21
            obtain ⟨y151, hy151⟩ : ∃ y_ : List Int, y_ = (([bt a1 x10_1] : List Int)) := ⟨_, rfl⟩
            replace H : (if x9_1.size + (strOfNums y151).size ≤ 9223372036854775807 then (stolelaw8_PageTexts.l0 kj12 a0 a1 t149 t150 (x9_1 ++ (strOfNums y151)) (wrap64 (x10_1 + 1))) else (none)) = some r := by first | (rw [hy151]; with_reducible exact H) | (have H2_ := (Option.bind_some _ _).symm.trans H; rw [hy151]; with_reducible exact H2_) | (have H2_ := (Option.bind_some _ _).symm.trans H; with_reducible exact H2_) | with_reducible exact H | (rw [hy151]; exact H) | exact H
            have Ny151 := Aside0.mk hy151
            clear hy151
            by_cases c23 : x9_1.size + (strOfNums y151).size ≤ 9223372036854775807
            ·rw [if_pos c23] at H
             have c23b0 := eq_true c23
             have c23b1 : decide (x9_1.size + (strOfNums y151).size ≤ 9223372036854775807) = true := decide_eq_true c23
             try have c23b2 : (9223372036854775807 < x9_1.size + (strOfNums y151).size) = False := eq_false (Nat.not_lt.2 c23)
             have H' := Aside0.mk H
             clear H
             have p18 : 0 ≤ (x10_1 : Int) := of_decide_eq_true (by first | (with_reducible assumption) | assumption)
             have q18 : x10_1 < (a1.size : Int) := of_decide_eq_true (by first | (with_reducible assumption) | assumption)
             have hx18 := bt_at a1 x10_1
             replace p18 := eq_true p18
             replace q18 := eq_true q18
             have p20 : 0 ≤ (x10_1 : Int) := of_decide_eq_true (by first | (with_reducible assumption) | assumption)
             have q20 : x10_1 < (a1.size : Int) := of_decide_eq_true (by first | (with_reducible assumption) | assumption)
             have hx20 := bt_at a1 x10_1
             replace p20 := eq_true p20
             replace q20 := eq_true q20
             have p22 : 0 ≤ (x10_1 : Int) := of_decide_eq_true (by first | (with_reducible assumption) | assumption)
             have q22 : x10_1 < (a1.size : Int) := of_decide_eq_true (by first | (with_reducible assumption) | assumption)
             have hx22 := bt_at a1 x10_1
             replace p22 := eq_true p22
             replace q22 := eq_true q22
             go_wp2_with (first | ((with_reducible refine gate_dst (N := 57) rfl ?_); refine Kd.R_lit (Kd.int .u8) _ 5 ?hg (N := 57) ?hd (xs := ([bt a1 x10_1] : List Int)) (inner := [.int .u8 (bt a1 x10_1)]) (ok := fun _ => True) (okp := fun _ => True) ?hr ?hp (fun _ hk => hk) trivial (Below.refl _ _) (Nat.le_refl _) (by simp) ?_; (case hd => rfl); (case hg => rfl); (case hr => first | (go_simp; done) | (go_simp; rfl)); (case hp => exact (Reps.one (show Kd.M (Kd.int .u8) _ _ _ (bt a1 x10_1) [.int .u8 (bt a1 x10_1)] from rfl) (Reps.none _ _))); intro v152 w24 ho25 hb hg_ hnew_; clear hg_ hnew_; (first | rw [← Ny151.out] at ho25 | (simp only [Int.reduceToNat] at ho25; rw [← Ny151.out] at ho25)); have n0_ := Aside0.mk (Kd.R_lower ho25 (below_size (by repeat (first | (with_reducible first | exact HB.out | apply below_alloc | apply pw_below_drewN | apply below_drew1) | exact HB.out)))); have n1_ := Aside0.mk (below_step (by repeat (first | (with_reducible first | exact HB.out | apply below_alloc | apply pw_below_drewN | apply below_drew1) | exact HB.out)) hb); clear HB; have HO153 := n0_; have HB := n1_; clear n0_ n1_; clear hb ho25; have hcv26 := own_string (P := Tryz.prog) Tryz.underlying37 Tryz.underlying5 Tryz.underlying9 (Kd.own_of_R HO153.out)))
             go_roundg kj12
             case measure => have := HK1.out; have := HJ12.out; omega
             case rel => exact ⟨(x9_1 ++ (strOfNums y151)), (wrap64 (x10_1 + 1)), (by first | rfl | (simp; done) | (simp [*]; done)), (by first | rfl | (simp; done) | (simp [*]; done)), H', ⟨by have := HK1.out; have := HJ12.out; omega⟩, ⟨by repeat (first | (with_reducible first | exact HB.out | apply below_alloc | apply pw_below_drewN | apply below_drew1) | exact HB.out)⟩⟩
            ·rw [if_neg c23] at H
             exact absurd H (by simp)
         ·rw [if_neg c17] at H
          exact absurd H (by simp)
        ·rw [if_neg c16] at H
         exact absurd H (by simp)
       ·replace c15 := Bool.eq_false_iff.mpr c15
        subst c15
        have H1 : (if 1 + x9_1.size ≤ 9223372036854775807 then (if 1 + x9_1.size + a0.size ≤ 9223372036854775807 then ((page_Parse.f (((⟨#[120]⟩ : ByteArray) ++ x9_1) ++ a0)).bind fun bt154 => ((page_Skeleton.f bt154.1).bind fun bt158 => ((stolelaw0_Num.f t150).bind fun t160 => (if t160 = 0 then ((stolelaw0_Num.f bt154.2).bind fun t161 => (if t161 = 0 then ((stolelaw0_Num.f bt158.2).bind fun t162 => (if t162 = 0 then (some (t149.toList == bt158.1.toList)) else (some false))) else (some true))) else (some false))))) else (none)) else (none)) = some r := by rw [if_neg (show ¬ (false = true) by decide)] at H; exact H
        clear H
        have H := H1
        clear H1
        by_cases c27 : 1 + x9_1.size ≤ 9223372036854775807
        ·rw [if_pos c27] at H
         have c27b0 := eq_true c27
         have c27b1 : decide (1 + x9_1.size ≤ 9223372036854775807) = true := decide_eq_true c27
         try have c27b2 : (9223372036854775807 < 1 + x9_1.size) = False := eq_false (Nat.not_lt.2 c27)
         by_cases c28 : 1 + x9_1.size + a0.size ≤ 9223372036854775807
         ·rw [if_pos c28] at H
          have c28b0 := eq_true c28
          have c28b1 : decide (1 + x9_1.size + a0.size ≤ 9223372036854775807) = true := decide_eq_true c28
          try have c28b2 : (9223372036854775807 < 1 + x9_1.size + a0.size) = False := eq_false (Nat.not_lt.2 c28)
          replace H := Option.bind_eq_some_iff.mp H
          obtain ⟨⟨t154, t155⟩, A290, H⟩ := H
          replace H : ((page_Skeleton.f t154).bind fun bt158 => ((stolelaw0_Num.f t150).bind fun t160 => (if t160 = 0 then ((stolelaw0_Num.f t155).bind fun t161 => (if t161 = 0 then ((stolelaw0_Num.f bt158.2).bind fun t162 => (if t162 = 0 then (some (t149.toList == bt158.1.toList)) else (some false))) else (some true))) else (some false)))) = some r := H
          have A29 := Aside0.mk A290
          clear A290
          replace H := Option.bind_eq_some_iff.mp H
          obtain ⟨⟨t158, t159⟩, A300, H⟩ := H
          replace H : ((stolelaw0_Num.f t150).bind fun t160 => (if t160 = 0 then ((stolelaw0_Num.f t155).bind fun t161 => (if t161 = 0 then ((stolelaw0_Num.f t159).bind fun t162 => (if t162 = 0 then (some (t149.toList == t158.toList)) else (some false))) else (some true))) else (some false))) = some r := H
          have A30 := Aside0.mk A300
          clear A300
          replace H := Option.bind_eq_some_iff.mp H
          obtain ⟨t160, A310, H⟩ := H
          replace H : (if t160 = 0 then ((stolelaw0_Num.f t155).bind fun t161 => (if t161 = 0 then ((stolelaw0_Num.f t159).bind fun t162 => (if t162 = 0 then (some (t149.toList == t158.toList)) else (some false))) else (some true))) else (some false)) = some r := H
          have A31 := Aside0.mk A310
          clear A310
          by_cases c32 : t160 = 0
          ·rw [if_pos c32] at H
           have c32b0 : (t160 == 0) = true := beq_iff_eq.mpr c32
           have c32b1 : (t160 != 0) = false := bne_eq_false_iff_eq.mpr c32
           clear c32
           replace H := Option.bind_eq_some_iff.mp H
           obtain ⟨t161, A330, H⟩ := H
           replace H : (if t161 = 0 then ((stolelaw0_Num.f t159).bind fun t162 => (if t162 = 0 then (some (t149.toList == t158.toList)) else (some false))) else (some true)) = some r := H
           have A33 := Aside0.mk A330
           clear A330
           by_cases c34 : t161 = 0
           ·rw [if_pos c34] at H
            have c34b0 : (t161 == 0) = true := beq_iff_eq.mpr c34
            have c34b1 : (t161 != 0) = false := bne_eq_false_iff_eq.mpr c34
            clear c34
            replace H := Option.bind_eq_some_iff.mp H
            obtain ⟨t162, A350, H⟩ := H
            replace H : (if t162 = 0 then (some (t149.toList == t158.toList)) else (some false)) = some r := H
            have A35 := Aside0.mk A350
            clear A350
            by_cases c36 : t162 = 0
            ·rw [if_pos c36] at H
             have c36b0 : (t162 == 0) = true := beq_iff_eq.mpr c36
             have c36b1 : (t162 != 0) = false := bne_eq_false_iff_eq.mpr c36
             clear c36
             obtain rfl := Option.some.inj H
             go_wp2_with (first | ((with_reducible refine gate_callee (f := 27) rfl ?_); refine goesL_ (some 65) rfl rfl Tryz.func27 (by kernel_rfl) rfl #[.string (((⟨#[120]⟩ : ByteArray) ++ x9_1) ++ a0)] rfl (by (try simp only [List.map_toArray, List.map_cons, List.map_nil]); first | done | rfl | (simp only [List.length_drop, List.length_take]; rfl)) ?_; (with_reducible refine (page_Parse.calls (((⟨#[120]⟩ : ByteArray) ++ x9_1) ++ a0) t154 t155 _ (tabs_below HT.out (by repeat (first | (with_reducible first | exact HB.out | apply below_alloc | apply pw_below_drewN | apply below_drew1) | exact HB.out))) A29.out).mono ?_); rintro e w37 ⟨v156, rfl, ho0, hb⟩; refine ⟨_, rfl, ?_⟩; have n0_ := Aside0.mk (Kd.S_lower ho0 (below_size (by repeat (first | (with_reducible first | exact HB.out | apply below_alloc | apply pw_below_drewN | apply below_drew1) | exact HB.out)))); have n1_ := Aside0.mk (below_step (by repeat (first | (with_reducible first | exact HB.out | apply below_alloc | apply pw_below_drewN | apply below_drew1) | exact HB.out)) hb); clear HB; have HO157 := n0_; have HB := n1_; clear n0_ n1_; (try clear hb); (try clear hb2); (try clear hk); (try clear hi); (try clear ho0); obtain ⟨Ao38, co38, eo38⟩ := Kd.S_slice HO157.out; subst eo38) | ((with_reducible refine gate_callee (f := 29) rfl ?_); refine goesL_ (some 70) rfl rfl Tryz.func29 (by kernel_rfl) rfl #[.slice Ao38 t154.length co38] rfl (by (try simp only [List.map_toArray, List.map_cons, List.map_nil]); first | done | rfl | (simp only [List.length_drop, List.length_take]; rfl)) ?_; (with_reducible refine (page_Skeleton.calls _ _ t154 t158 t159 _ (tabs_below HT.out (by repeat (first | (with_reducible first | exact HB.out | apply below_alloc | apply pw_below_drewN | apply below_drew1) | exact HB.out))) ?side1 ?side2 A30.out).mono ?_); (case side1 => repeat (first | exact (Kd.S_reads' HO157.out).2.2 | (with_reducible refine Kd.C_alloc ?_ _) | (with_reducible refine Kd.C_drewN ?_ _) | (with_reducible refine Kd.C_drew ?_))); (case side2 => exact (Kd.S_reads' HO157.out).2.1); rintro e w39 ⟨rfl, hb⟩; refine ⟨_, rfl, ?_⟩; have n0_ := Aside0.mk (Kd.S_below (by (with_reducible repeat (first | apply Kd.S_alloc | apply Kd.S_drewN | apply Kd.S_drew)); exact HO157.out) hb); have n1_ := Aside0.mk (below_step (by repeat (first | (with_reducible first | exact HB.out | apply below_alloc | apply pw_below_drewN | apply below_drew1) | exact HB.out)) hb); clear HO157; clear HB; have HO157 := n0_; have HB := n1_; clear n0_ n1_; (try clear hb); (try clear hb2); (try clear hk); (try clear hi)) | ((with_reducible refine gate_callee (f := 21) rfl ?_); refine goesL_ (some 74) rfl rfl Tryz.func21 (by kernel_rfl) rfl #[.int .i64 t150] rfl (by (try simp only [List.map_toArray, List.map_cons, List.map_nil]); first | done | rfl | (simp only [List.length_drop, List.length_take]; rfl)) ?_; (with_reducible refine (stolelaw0_Num.calls t150 t160 _ A31.out).mono ?_); rintro e w' ⟨rfl, ⟨nd, rfl⟩⟩; refine ⟨_, rfl, ?_⟩) | (go_at_call 21; (with_reducible refine (stolelaw0_Num.calls t155 t161 _ A33.out).mono ?_); rintro e w' ⟨rfl, ⟨nd, rfl⟩⟩) | (go_at_call 21; (with_reducible refine (stolelaw0_Num.calls t159 t162 _ A35.out).mono ?_); rintro e w' ⟨rfl, ⟨nd, rfl⟩⟩))
             go_ret
             exact ⟨by first | rfl | (simp [errW_none, errW_some] <;> rfl) | (simp [*, errW_none, errW_some] <;> rfl), by repeat (first | (with_reducible first | exact HB.out | apply below_alloc | apply pw_below_drewN | apply below_drew1) | exact HB.out)⟩
            ·rw [if_neg c36] at H
             have c36b0 : (t162 == 0) = false := beq_eq_false_iff_ne.mpr c36
             have c36b1 : (t162 != 0) = true := bne_iff_ne.mpr c36
             obtain rfl := Option.some.inj H
             exact absurd hr (by simp)
           ·rw [if_neg c34] at H
            have c34b0 : (t161 == 0) = false := beq_eq_false_iff_ne.mpr c34
            have c34b1 : (t161 != 0) = true := bne_iff_ne.mpr c34
            obtain rfl := Option.some.inj H
            go_wp2_with (first | ((with_reducible refine gate_callee (f := 27) rfl ?_); refine goesL_ (some 65) rfl rfl Tryz.func27 (by kernel_rfl) rfl #[.string (((⟨#[120]⟩ : ByteArray) ++ x9_1) ++ a0)] rfl (by (try simp only [List.map_toArray, List.map_cons, List.map_nil]); first | done | rfl | (simp only [List.length_drop, List.length_take]; rfl)) ?_; (with_reducible refine (page_Parse.calls (((⟨#[120]⟩ : ByteArray) ++ x9_1) ++ a0) t154 t155 _ (tabs_below HT.out (by repeat (first | (with_reducible first | exact HB.out | apply below_alloc | apply pw_below_drewN | apply below_drew1) | exact HB.out))) A29.out).mono ?_); rintro e w43 ⟨v156, rfl, ho0, hb⟩; refine ⟨_, rfl, ?_⟩; have n0_ := Aside0.mk (Kd.S_lower ho0 (below_size (by repeat (first | (with_reducible first | exact HB.out | apply below_alloc | apply pw_below_drewN | apply below_drew1) | exact HB.out)))); have n1_ := Aside0.mk (below_step (by repeat (first | (with_reducible first | exact HB.out | apply below_alloc | apply pw_below_drewN | apply below_drew1) | exact HB.out)) hb); clear HB; have HO157 := n0_; have HB := n1_; clear n0_ n1_; (try clear hb); (try clear hb2); (try clear hk); (try clear hi); (try clear ho0); obtain ⟨Ao44, co44, eo44⟩ := Kd.S_slice HO157.out; subst eo44) | ((with_reducible refine gate_callee (f := 29) rfl ?_); refine goesL_ (some 70) rfl rfl Tryz.func29 (by kernel_rfl) rfl #[.slice Ao44 t154.length co44] rfl (by (try simp only [List.map_toArray, List.map_cons, List.map_nil]); first | done | rfl | (simp only [List.length_drop, List.length_take]; rfl)) ?_; (with_reducible refine (page_Skeleton.calls _ _ t154 t158 t159 _ (tabs_below HT.out (by repeat (first | (with_reducible first | exact HB.out | apply below_alloc | apply pw_below_drewN | apply below_drew1) | exact HB.out))) ?side1 ?side2 A30.out).mono ?_); (case side1 => repeat (first | exact (Kd.S_reads' HO157.out).2.2 | (with_reducible refine Kd.C_alloc ?_ _) | (with_reducible refine Kd.C_drewN ?_ _) | (with_reducible refine Kd.C_drew ?_))); (case side2 => exact (Kd.S_reads' HO157.out).2.1); rintro e w45 ⟨rfl, hb⟩; refine ⟨_, rfl, ?_⟩; have n0_ := Aside0.mk (Kd.S_below (by (with_reducible repeat (first | apply Kd.S_alloc | apply Kd.S_drewN | apply Kd.S_drew)); exact HO157.out) hb); have n1_ := Aside0.mk (below_step (by repeat (first | (with_reducible first | exact HB.out | apply below_alloc | apply pw_below_drewN | apply below_drew1) | exact HB.out)) hb); clear HO157; clear HB; have HO157 := n0_; have HB := n1_; clear n0_ n1_; (try clear hb); (try clear hb2); (try clear hk); (try clear hi)) | ((with_reducible refine gate_callee (f := 21) rfl ?_); refine goesL_ (some 74) rfl rfl Tryz.func21 (by kernel_rfl) rfl #[.int .i64 t150] rfl (by (try simp only [List.map_toArray, List.map_cons, List.map_nil]); first | done | rfl | (simp only [List.length_drop, List.length_take]; rfl)) ?_; (with_reducible refine (stolelaw0_Num.calls t150 t160 _ A31.out).mono ?_); rintro e w' ⟨rfl, ⟨nd, rfl⟩⟩; refine ⟨_, rfl, ?_⟩) | (go_at_call 21; (with_reducible refine (stolelaw0_Num.calls t155 t161 _ A33.out).mono ?_); rintro e w' ⟨rfl, ⟨nd, rfl⟩⟩))
            go_ret
            exact ⟨by first | rfl | (simp [errW_none, errW_some] <;> rfl) | (simp [*, errW_none, errW_some] <;> rfl), by repeat (first | (with_reducible first | exact HB.out | apply below_alloc | apply pw_below_drewN | apply below_drew1) | exact HB.out)⟩
          ·rw [if_neg c32] at H
           have c32b0 : (t160 == 0) = false := beq_eq_false_iff_ne.mpr c32
           have c32b1 : (t160 != 0) = true := bne_iff_ne.mpr c32
           obtain rfl := Option.some.inj H
           exact absurd hr (by simp)
         ·rw [if_neg c28] at H
          exact absurd H (by simp)
        ·rw [if_neg c27] at H
         exact absurd H (by simp)
  ·rw [if_neg c7] at H
   have c7b0 : (t148 == 0) = false := beq_eq_false_iff_ne.mpr c7
   have c7b1 : (t148 != 0) = true := bne_iff_ne.mpr c7
   obtain rfl := Option.some.inj H
   go_enter Tryz.func6, Tryz.ntmps6
   go_wp2_with (first | ((with_reducible refine gate_callee (f := 36) rfl ?_); refine goesL_ (some 15) rfl rfl Tryz.func36 (by kernel_rfl) rfl #[] rfl (by (try simp only [List.map_toArray, List.map_cons, List.map_nil]); first | done | rfl | (simp only [List.length_drop, List.length_take]; rfl)) ?_; (with_reducible refine (stolelaw8_awake.calls k  true _ (tabs_below HT.out (by repeat (first | (with_reducible first | exact HB.out | apply below_alloc | apply pw_below_drewN | apply below_drew1) | exact HB.out))) A3.out rfl).mono ?_); rintro e w49 ⟨rfl, hb⟩; refine ⟨_, rfl, ?_⟩; have n0_ := Aside0.mk (below_step (by repeat (first | (with_reducible first | exact HB.out | apply below_alloc | apply pw_below_drewN | apply below_drew1) | exact HB.out)) hb); clear HB; have HB := n0_; clear n0_; (try clear hb); (try clear hb2); (try clear hk); (try clear hi)) | ((with_reducible refine gate_callee (f := 27) rfl ?_); refine goesL_ (some 19) rfl rfl Tryz.func27 (by kernel_rfl) rfl #[.string a0] rfl (by (try simp only [List.map_toArray, List.map_cons, List.map_nil]); first | done | rfl | (simp only [List.length_drop, List.length_take]; rfl)) ?_; (with_reducible refine (page_Parse.calls a0 t144 t145 _ (tabs_below HT.out (by repeat (first | (with_reducible first | exact HB.out | apply below_alloc | apply pw_below_drewN | apply below_drew1) | exact HB.out))) A5.out).mono ?_); rintro e w50 ⟨v146, rfl, ho0, hb⟩; refine ⟨_, rfl, ?_⟩; have n0_ := Aside0.mk (Kd.S_lower ho0 (below_size (by repeat (first | (with_reducible first | exact HB.out | apply below_alloc | apply pw_below_drewN | apply below_drew1) | exact HB.out)))); have n1_ := Aside0.mk (below_step (by repeat (first | (with_reducible first | exact HB.out | apply below_alloc | apply pw_below_drewN | apply below_drew1) | exact HB.out)) hb); clear HB; have HO147 := n0_; have HB := n1_; clear n0_ n1_; (try clear hb); (try clear hb2); (try clear hk); (try clear hi); (try clear ho0)) | ((with_reducible refine gate_callee (f := 21) rfl ?_); refine goesL_ (some 23) rfl rfl Tryz.func21 (by kernel_rfl) rfl #[.int .i64 t145] rfl (by (try simp only [List.map_toArray, List.map_cons, List.map_nil]); first | done | rfl | (simp only [List.length_drop, List.length_take]; rfl)) ?_; (with_reducible refine (stolelaw0_Num.calls t145 t148 _ A6.out).mono ?_); rintro e w' ⟨rfl, ⟨nd, rfl⟩⟩; refine ⟨_, rfl, ?_⟩; obtain ⟨Ao51, co51, eo51⟩ := Kd.S_slice HO147.out; subst eo51))
   go_ret
   exact ⟨by first | rfl | (simp [errW_none, errW_some] <;> rfl) | (simp [*, errW_none, errW_some] <;> rfl), by repeat (first | (with_reducible first | exact HB.out | apply below_alloc | apply pw_below_drewN | apply below_drew1) | exact HB.out)⟩
 ·replace c4 := Bool.eq_false_iff.mpr c4
  subst c4
  have H1 : (some false) = some r := by rw [if_neg (show ¬ (false = true) by decide)] at H; exact H
  clear H
  have H := H1
  clear H1
  obtain rfl := Option.some.inj H
  exact absurd hr (by simp)
def stolelaw8_PageTexts.Pure : Prop := ∀ (a0 : ByteArray) (a1 : ByteArray), a0.size ≤ 140737488351232 → a1.size ≤ 140737488351232 → ∃ k, stolelaw8_PageTexts.f k a0 a1 = some true
theorem stolelaw8_PageTexts.walk (P : stolelaw8_PageTexts.Pure) (a0 : ByteArray) (a1 : ByteArray) (w : World) (hT : Tabs w) (w0 : a0.size ≤ 140737488351232) (w1 : a1.size ≤ 140737488351232) :
  Calls Tryz.prog 6 #[.string a0, .string a1] w fun e w' => e = .returned (.bool true) ∧ Below w.heap.size w w' := by
 obtain ⟨k, h⟩ := P a0 a1 w0 w1
 refine (stolelaw8_PageTexts.calls k a0 a1 true w hT h rfl).mono ?_
 rintro e w' ⟨rfl, hd⟩
 exact ⟨rfl, hd⟩
end Go.Proofs.YtfmcdlbbbmeolaaGreatDoor.XP
end
section
namespace Go.Proofs.YtfmcdlbbbmeolaaGreatDoor.P8
open Go.RowKit Go.Proofs.YtfmcdlbbbmeolaaGreatDoor.XK Go.Proofs.YtfmcdlbbbmeolaaGreatDoor.XP Go.Proofs.YtfmcdlbbbmeolaaGreatDoor.Tk Go.Proofs.YtfmcdlbbbmeolaaGreatDoor.ExtP Go.Proofs.YtfmcdlbbbmeolaaGreatDoor.Base Go.Proofs.YtfmcdlbbbmeolaaGreatDoorW.PrintWords Go.Proofs.YtfmcdlbbbmeolaaGreatDoorW.PrintLast Go.Proofs.YtfmcdlbbbmeolaaGreatDoorW.PrintMore
open Go.Proofs.YtfmcdlbbbmeolaaGreatDoor.Tr (parseF skR skS it4 tkS mayNs parse_ok parse_err skel_parse skel_f NodB toks noText tkS_noText)
set_option linter.unusedVariables false
set_option linter.unusedSimpArgs false
set_option maxRecDepth 100000
theorem parse_f (b : ByteArray) : page_Parse.f b = some (parseF b.data.toList) := by
  unfold page_Parse.f tok_Tokens.f parseF
  rw [tokens_eq]
  simp only [Option.bind_some]
  have hb := (toks_bnd b.data.toList).1
  split
  · unfold tree_Build.f
    rw [if_pos (by omega)]; rfl
  · rfl
theorem parse_long (n : Nat) (h : 65536 < n) (x : Int) : page_Parse.f (strOfNums (List.replicate n x)) = some ([], 500) := by
  rw [parse_f]
  unfold parseF tokensM
  rw [strOfNums_data, List.length_map, List.length_replicate, if_pos h]; rfl
theorem skel_nil : page_Skeleton.f [] = some (⟨#[]⟩, 800) := by
  rw [skel_f [] (by decide) (fun x hx => (by cases hx))]; rfl
def pg0 : List UInt8 := [60, 112, 32, 97, 61, 49, 62, 120, 60, 98, 62, 121, 60, 47, 98, 62, 60, 47, 112, 62, 60, 33, 113, 62]
def ns0 : List S69 := [⟨0, ⟨#[]⟩, ⟨#[]⟩, [], -1⟩, ⟨1, ⟨#[112]⟩, ⟨#[]⟩, [⟨⟨#[97]⟩, ⟨#[49]⟩⟩], 0⟩, ⟨2, ⟨#[]⟩, ⟨#[120]⟩, [], 1⟩, ⟨1, ⟨#[98]⟩, ⟨#[]⟩, [], 1⟩, ⟨2, ⟨#[]⟩, ⟨#[121]⟩, [], 3⟩, ⟨3, ⟨#[]⟩, ⟨#[113]⟩, [], 0⟩]
theorem pg0_eq : parseF pg0 = (ns0, 0) := by kernel_rfl
theorem sk0_eq : skR ns0 = ([48, 32, 101, 32, 112, 32, 97, 10, 49, 32, 101, 32, 98, 10, 48, 32, 99, 32, 113, 10], 0) := by kernel_rfl
set_option maxHeartbeats 4000000 in
theorem awake_ok : stolelaw8_awake.f 60 = some true := by
  have h1 : page_Parse.f ⟨pg0.toArray⟩ = some (ns0, 0) := by rw [parse_f]; show some (parseF pg0) = _; rw [pg0_eq]
  have h2 : page_Skeleton.f ns0 = some (⟨(skR ns0).1.toArray⟩, (skR ns0).2) := by have := skel_parse pg0; rwa [pg0_eq] at this
  rw [sk0_eq] at h2
  unfold pg0 at h1
  unfold stolelaw8_awake.f
  rw [h1, parse_long 65537 (by decide), skel_nil]
  simp only [Option.bind_some]
  rw [h2]
  decide +kernel
theorem awake_ev : Ev (fun k => stolelaw8_awake.f k) true := Ev.of (fun k => stolelaw8_awake.mono k) awake_ok
def Qt (q : ByteArray) : Prop := (∀ b ∈ q.data.toList, b ≠ 60) ∧ q.size ≤ 40
theorem txt_end (s q x7 : ByteArray) (hs : s.size ≤ 140737488351232) (hq : Qt q) (hp : (parseF s.data.toList).2 = 0) (h7 : x7 = ⟨(skR (parseF s.data.toList).1).1.toArray⟩) :
    Ev (fun k => (page_Parse.f (((⟨#[120]⟩ : ByteArray) ++ q) ++ s)).bind fun bt154 => ((page_Skeleton.f bt154.1).bind fun bt158 => ((stolelaw0_Num.f 0).bind fun t160 => (if t160 = 0 then ((stolelaw0_Num.f bt154.2).bind fun t161 => (if t161 = 0 then ((stolelaw0_Num.f bt158.2).bind fun t162 => (if t162 = 0 then (some (x7.toList == bt158.1.toList)) else (some false))) else (some true))) else (some false))))) true := by
  refine Ev.bindC (parse_f _) (Ev.bindC (skel_parse _) ?_)
  refine Ev.bindC (s := 0) (by unfold stolelaw0_Num.f; rfl) (Ev.pos rfl ?_)
  refine Ev.bindC (s := (parseF ((((⟨#[120]⟩ : ByteArray) ++ q) ++ s)).data.toList).2) (by unfold stolelaw0_Num.f; rfl) ?_
  have hd : ((((⟨#[120]⟩ : ByteArray) ++ q) ++ s)).data.toList = (120 :: q.data.toList) ++ s.data.toList := by rw [data_append, data_append]; rfl
  rw [hd]
  by_cases h : (parseF ((120 :: q.data.toList) ++ s.data.toList)).2 = 0
  · refine Ev.pos h ?_
    have e1 := parse_ok _ h
    have e2 := parse_ok _ hp
    have hlen : ((120 :: q.data.toList) ++ s.data.toList).length ≤ 65536 := by
      rcases Nat.lt_or_ge 65536 ((120 :: q.data.toList) ++ s.data.toList).length with hl | hl
      · exfalso
        unfold parseF tokensM at h
        rw [if_pos hl, if_neg (by decide)] at h
        exact absurd h (by decide)
      · exact hl
    have hn := ahead_noText (120 :: q.data.toList) s.data.toList (fun b hb => by
      rcases List.mem_cons.1 hb with rfl | hb
      · decide
      · exact hq.1 b hb) hlen
    refine Ev.bindC (s := 0) (by rw [e1]; unfold stolelaw0_Num.f; rfl) (Ev.pos rfl ?_)
    refine Ev.ofSome ?_
    rw [h7, e1, e2, tkS_noText it4 _ _ hn]
    simp
  · exact Ev.neg h (Ev.now true)
theorem texts_go (s tt x7 : ByteArray) (hs : s.size ≤ 140737488351232) (hp : (parseF s.data.toList).2 = 0) (h7 : x7 = ⟨(skR (parseF s.data.toList).1).1.toArray⟩) : ∀ (d i : Nat) (q : ByteArray), i + d = 40 → i ≤ tt.size → q.size ≤ i → (∀ b ∈ q.data.toList, b ≠ 60) →
    Ev (fun k => stolelaw8_PageTexts.l0 k s tt x7 0 q (i : Int)) true := by
  intro d
  induction d with
  | zero =>
    intro i q hi hto hqs hq
    have hend := txt_end s q x7 hs ⟨hq, by omega⟩ hp h7
    have hz : (⟨#[120]⟩ : ByteArray).size = 1 := rfl
    refine Ev.step (f := fun k => _) (fun k => by rw [stolelaw8_PageTexts.l0]) ?_
    by_cases h : i < tt.size
    · refine Ev.pos (by omega) ?_
      rw [show decide ((i : Int) < 40) = false from decide_eq_false (by omega)]
      refine Ev.step (f := fun k => _) (fun k => by rw [stolelaw8_PageTexts.j1]) ?_
      exact Ev.neg (by simp) (Ev.pos (by omega) (Ev.pos (by omega) hend))
    · refine Ev.neg (by omega) ?_
      refine Ev.step (f := fun k => _) (fun k => by rw [stolelaw8_PageTexts.j1]) ?_
      exact Ev.neg (by simp) (Ev.pos (by omega) (Ev.pos (by omega) hend))
  | succ d ih =>
    intro i q hi hto hqs hq
    have hend := txt_end s q x7 hs ⟨hq, by omega⟩ hp h7
    refine Ev.step (f := fun k => _) (fun k => by rw [stolelaw8_PageTexts.l0]) ?_
    by_cases h : i < tt.size
    · refine Ev.pos (by omega) ?_
      rw [show decide ((i : Int) < 40) = true from decide_eq_true (by omega)]
      refine Ev.step (f := fun k => _) (fun k => by rw [stolelaw8_PageTexts.j1]) ?_
      have hwr : wrap64 ((i : Int) + 1) = ((i + 1 : Nat) : Int) := wrap_next (n := 300) (by omega) (by decide)
      have hl : i < tt.data.toList.length := by rw [data_length]; exact h
      have hbt : bt tt (i : Int) = (((tt.data.toList[i]).toNat : Nat) : Int) := by
        rw [bt_list tt i h, List.getD_eq_getElem?_getD, List.getElem?_eq_getElem hl]; rfl
      obtain ⟨c, hc⟩ : ∃ c, tt.data.toList[i] = c := ⟨_, rfl⟩
      rw [hc] at hbt
      have hskip := ih (i + 1) q (by omega) (by omega) (by omega) hq
      refine Ev.pos rfl (Ev.pos (by omega) (Ev.pos (by omega) ?_))
      rw [hwr]
      by_cases h60 : bt tt (i : Int) = 60
      · exact Ev.pos h60 hskip
      refine Ev.neg h60 ?_
      by_cases h62 : bt tt (i : Int) = 62
      · exact Ev.pos h62 hskip
      refine Ev.neg h62 (Ev.bindC rfl ?_)
      have hst : strOfNums [bt tt (i : Int)] = ⟨#[c]⟩ := by
        have e2 := strOfNums_data [bt tt (i : Int)]
        refine ext_list ?_
        rw [e2, hbt]
        show [UInt8.ofNat _] = [c]
        rw [show ((((c.toNat : Nat) : Int)).toNat) = c.toNat from Int.toNat_natCast _] <;> simp
      rw [hst]
      have hz : (⟨#[c]⟩ : ByteArray).size = 1 := rfl
      refine Ev.pos (by omega) (ih (i + 1) _ (by omega) (by omega) (by rw [size_append]; omega) ?_)
      intro b hb
      rw [data_append] at hb
      rcases List.mem_append.1 hb with hb | hb
      · exact hq b hb
      · have : b = c := by simpa using hb
        subst this
        intro e
        apply h60
        rw [hbt, e]; rfl
    · have hz : (⟨#[120]⟩ : ByteArray).size = 1 := rfl
      refine Ev.neg (by omega) ?_
      refine Ev.step (f := fun k => _) (fun k => by rw [stolelaw8_PageTexts.j1]) ?_
      exact Ev.neg (by simp) (Ev.pos (by omega) (Ev.pos (by omega) hend))
theorem pageTexts_plain (a0 a1 : ByteArray) (h0 : a0.size ≤ 140737488351232) (h1 : a1.size ≤ 140737488351232) : ∃ k, stolelaw8_PageTexts.f k a0 a1 = some true := by
  refine Ev.rounds ?_
  refine Ev.congr (f := fun k => _) (fun k => by rw [stolelaw8_PageTexts.f]) ?_
  refine Ev.bind awake_ev (Ev.pos rfl ?_)
  refine Ev.bindC (parse_f a0) ?_
  refine Ev.bindC (s := (parseF a0.data.toList).2) (by unfold stolelaw0_Num.f; rfl) ?_
  by_cases h : (parseF a0.data.toList).2 = 0
  · refine Ev.pos h (Ev.bindC (skel_parse _) ?_)
    have e := parse_ok _ h
    have e2 : (skR (parseF a0.data.toList).1).2 = 0 := by rw [e]
    simp only [e2]
    exact texts_go a0 a1 _ h0 h rfl 40 0 ⟨#[]⟩ rfl (Nat.zero_le _) (Nat.le_refl _) (fun b hb => (by cases hb))
  · refine Ev.neg h (Ev.ofSome ?_)
    rw [parse_err _ h]; rfl
end Go.Proofs.YtfmcdlbbbmeolaaGreatDoor.P8
end
section
namespace Go.Proofs.YtfmcdlbbbmeolaaGreatDoor.RowPageTexts
open Go.ChangeShapes Go.WideShapes Go.ChangeAt Go.RowKit Go.Proofs.YtfmcdlbbbmeolaaGreatDoorW.PrintWords Go.Proofs.YtfmcdlbbbmeolaaGreatDoorW.PrintLast Go.Proofs.YtfmcdlbbbmeolaaGreatDoor.ExtP
open Go.ChangeMaps (open_string shut_string)
set_option linter.unusedVariables false
theorem own : ownKnob Tryz.prog.godebug = none := by kernel_rfl
set_option maxRecDepth 100000 in
set_option maxHeartbeats 4000000 in
theorem contract (H : Type) (enc : TypeId × Value → H) (W : World) (base : Nat) (args : Array Value) (ds gs : List (DataW H)) (before : List MemPlace)
    (hval0 : ∀ (j : Nat) t v, Tryz.f6.params[j]? = some t → args[j]? = some v → Value.okWide Tryz.prog W .any base t v)
    (hW : DataW.Whole enc Tryz.prog Tryz.f6.params.toList Rows.pageTextsSpec.vars false W args.toList ds gs before)
    (hsz0 : (DataW.weightsEach Tryz.prog (Tryz.f6.params.toList ++ Rows.pageTextsSpec.plain.varTypes Tryz.prog) (ds ++ gs)).all (· ≤ reachBytes) = true)
    (hL : laidMetH Tryz.prog Rows.pageTextsRow.laid W)
    (hsh : W.ShapedOpen Tryz.prog)
    : Calls Tryz.prog 6 args W fun e W' => ∃ v, e = .returned v ∧ Rows.pageTextsSpec.post enc Tryz.prog Tryz.f6 false true false false W args v W' := by
  have hsz : (DataW.weightsEach Tryz.prog (Tryz.f6.params.toList ++ Rows.pageTextsSpec.plain.varTypes Tryz.prog) (ds ++ gs)).all (· ≤ reachBytes) = true := hsz0
  have hval : ∀ (j : Nat) t v, Tryz.f6.params[j]? = some t → args[j]? = some v → Value.okWide Tryz.prog W .any base t v := hval0
  have hW' := hW
  obtain ⟨p, q, hA0, hV, rfl, hfz, hnd⟩ := hW
  have hA : DataW.TrodAll enc Tryz.prog W 0 (fun _ => true) true Tryz.f6.params.toList args.toList ds p := hA0
  rw [Tryz.params6] at hA hval hsz
  obtain ⟨v0, vs0, d0, ds0, p0, q0, hargs, rfl, rfl, h0, r0⟩ := trodAll_cons hA
  obtain ⟨v1, vs1, d1, ds1, p1, q1, rfl, rfl, rfl, h1, r1⟩ := trodAll_cons r0
  obtain ⟨rfl, rfl, rfl⟩ := trodAll_nil r1
  obtain rfl : args = #[v0, v1] := by cases args; simp_all
  obtain ⟨rfl, rfl⟩ := trodVars_none hV
  obtain ⟨a0, rfl, rfl, rfl, y0⟩ := open_string Tryz.underlying9 (hval 0 9 v0 rfl rfl) h0
  have w0 : a0.size ≤ 140737488351232 := by
    have z := sized_string hsz (j := 0) (t := 9) rfl rfl
    rw [Array.length_toList] at z
    exact z
  obtain ⟨a1, rfl, rfl, rfl, y1⟩ := open_string Tryz.underlying9 (hval 1 9 v1 rfl rfl) h1
  have w1 : a1.size ≤ 140737488351232 := by
    have z := sized_string hsz (j := 1) (t := 9) rfl rfl
    rw [Array.length_toList] at z
    exact z
  clear hA0 hval0 hsz0 hsz hval
  have hT : Tabs W := ⟨Tryz.laysM143.s1_3 W hsh, tabP_of_laid hL (by kernel_rfl) (by simp [Rows.pageTextsRow])⟩
  obtain ⟨k, hk⟩ := P8.pageTexts_plain a0 a1 w0 w1
  refine (XP.stolelaw8_PageTexts.calls k a0 a1 true W hT hk rfl).mono fun e W' ⟨he, bel0⟩ => ?_
  have bel : Below W.heap.size W W' := bel0
  subst he
  simp only [List.append_nil] at hW'
  exact ⟨_, rfl, _, _, _, [], _, [], hW', trodAll_mk1 (shut_bool Tryz.underlying4 _), (trodAll_cons_mk (shut_string Tryz.underlying9 y0) (trodAll_cons_mk (shut_string Tryz.underlying9 y1) trodAll_mk0)), rfl, bel.frame _, fun h => by cases h⟩
theorem laid_met (os : Os) : laidMetH Tryz.prog Rows.pageTextsRow.laid ((World.laidAll Tryz.prog os Rows.pageTextsRow.laid).forCall (fun _ _ => 0) ⟨#[], #[.string ByteArray.empty, .string ByteArray.empty], []⟩).memory := by
  rw [MakeChecks.laidMetH_plain _ _ _ (by kernel_rfl)]
  exact laidMet_laidAll _ (by kernel_rfl) (by kernel_rfl)
theorem reads (os : Os) {H : Type} (enc : TypeId × Value → H) : ∃ places, DataW.whole enc Tryz.prog ((World.laidAll Tryz.prog os Rows.pageTextsRow.laid).forCall (fun _ _ => 0) ⟨#[], #[.string ByteArray.empty, .string ByteArray.empty], []⟩).memory Tryz.f6.params.toList Rows.pageTextsSpec.vars false (#[.string ByteArray.empty, .string ByteArray.empty] : Array Value).toList 8 = some ([.lit (.string []), .lit (.string [])], [], places) :=
  ⟨[], by kernel_rfl⟩
set_option maxRecDepth 100000 in
theorem lifted (os : Os) (started : os.Started) (H : Type) (enc : TypeId × Value → H) (F : Stop.Interp) :
    ReturnsInHanded {} Tryz.checked os 6 .any ((OpenSpec.ofChange Rows.pageTextsSpec).preRow enc Tryz.prog Tryz.f6 Rows.pageTextsRow.domain false Rows.pageTextsRow.laid) (((OpenSpec.ofChange Rows.pageTextsSpec).at F).post enc Tryz.prog Tryz.f6 false true false false) := by
  obtain ⟨places, hx⟩ := reads os enc
  refine returnsInHanded_of_row (C := Tryz.checked) (s := (OpenSpec.ofChange Rows.pageTextsSpec)) own started (by kernel_rfl) Tryz.func6
    (witness_row_at (enc := enc) (C := Tryz.checked) false (World.laidAll Tryz.prog os Rows.pageTextsRow.laid) #[.string ByteArray.empty, .string ByteArray.empty] (World.laidAll_os _ _ _) (by kernel_rfl) (by kernel_rfl) (by kernel_rfl)
      (OpenSpec.preRow_of_cond 8 hx (by kernel_rfl) (fun k hk => by cases hk) (by kernel_rfl) (laid_met os))) ?_
  intro W base args ds gs before hval hW hcnd hcond hsz hL hsh _
  exact contract H enc W base args ds gs before hval hW hsz hL hsh
set_option maxRecDepth 100000 in
theorem c_laid : laidOutB Tryz.pinned.checked.prog = true := by kernel_rfl
set_option maxRecDepth 100000 in
theorem c_maps : mapsRowed Tryz.pinned.checked.prog = true := by kernel_rfl
set_option maxRecDepth 100000 in
theorem c_place : (Rows.pageTextsRow.inPlace == Tryz.pinned.checked.prog.inPlace 6) = true := by kernel_rfl
set_option maxRecDepth 100000 in
theorem c_unf : (Rows.pageTextsRow.unfollowed == Tryz.pinned.checked.prog.unfollowed 6) = true := by kernel_rfl
set_option maxRecDepth 100000 in
theorem c_rec : (Rows.pageTextsRow.recurses == Tryz.pinned.checked.prog.recurses 6) = true := by kernel_rfl
set_option maxRecDepth 100000 in
theorem c_named : (Rows.pageTextsRow.named == Tryz.pinned.checked.prog.varsNamed 6) = true := by kernel_rfl
set_option maxRecDepth 100000 in
theorem closed : joinedFacts Tryz.pinned.checked.prog 6 Tryz.f6 (OpenSpec.bare (OpenSpec.ofChange Rows.pageTextsSpec)) Rows.pageTextsRow = true := by
  unfold joinedFacts
  rw [c_laid, c_maps, c_place, c_unf, c_rec, c_named]
  kernel_rfl
theorem said : Rows.PageTextsSaid :=
  OpenClaim.holds_of_cond 6 Tryz.f6 rfl rfl rfl rfl rfl rfl rfl ⟨rfl, rfl, rfl, rfl, rfl⟩ rfl rfl rfl rfl rfl (by kernel_rfl) Tryz.func6 closed
    (of_decide_eq_true (by kernel_rfl)) (by unfold Func.isWrapper; first | (rw [if_pos (by decide +kernel)]; kernel_rfl) | (rw [if_neg (by decide +kernel)]; exact ⟨rfl, rfl⟩))
    (fun os started H enc _ F => by rw [OpenClaim.pre_eq_preRow]; exact lifted os started H enc F)
theorem plain (f : FuncId) (fn : Func) (hf : Tryz.pinned.checked.prog.funcNamed "stole/stolelaw8.PageTexts" = some f) (hfn : Tryz.pinned.checked.prog.funcs[f]? = some fn) :
    true = Tryz.pinned.checked.prog.looks [] ∧ ∀ (j : Nat) t, fn.params[j]? = some t → Tryz.pinned.checked.prog.wantsStandIn t = false := by
  obtain rfl : f = 6 := Option.some.inj ((show Tryz.prog.funcNamed "stole/stolelaw8.PageTexts" = some 6 by kernel_rfl).symm.trans hf) |>.symm
  obtain rfl : fn = Tryz.f6 := (Option.some.inj (Tryz.func6.symm.trans hfn)).symm
  refine ⟨by kernel_rfl, fun j t ht => ?_⟩
  rw [Tryz.params6] at ht
  have hm := Array.mem_of_getElem? ht
  have hall : (#[9, 9] : Array TypeId).all (fun t => Tryz.prog.wantsStandIn t == false) = true := by kernel_rfl
  rw [Array.all_eq_true'] at hall
  exact eq_of_beq (hall t hm)
theorem proved : Rows.PageTextsCardSaid :=
  Claim7.holds_tied_plain_at .later [] _ _ _ _ said (fun _ h => by cases h) (by kernel_rfl) (fun _ h => by cases h) pageTexts_row_tie rfl ⟨rfl, rfl⟩ (by kernel_rfl) rfl plain (by kernel_rfl)
end Go.Proofs.YtfmcdlbbbmeolaaGreatDoor.RowPageTexts
namespace Go.Proofs.YtfmcdlbbbmeolaaGreatDoor
theorem pageTexts_holds : Rows.PageTextsCardSaid := RowPageTexts.proved
#print axioms pageTexts_holds
end Go.Proofs.YtfmcdlbbbmeolaaGreatDoor
end
