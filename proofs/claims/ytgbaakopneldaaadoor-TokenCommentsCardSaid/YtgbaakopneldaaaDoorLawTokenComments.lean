/- The law stole/stolelaw5.TokenComments returns true at every input of its types, and its arguments read behind the call as before. The listed package-level variables are tied to the program's text. No further condition. TokenComments, plain. Laid by xprint.py, a program of this session over the kit's print: for each Go function one Lean function of the same answers, and the walk that shows it. -/
import Derived.Test.YtgbaakopneldaaaDoorM15
import Derived.Test.YtgbaakopneldaaaDoorM16
import Derived.Test.YtgbaakopneldaaaDoorM17
import Derived.KernelRfl
import Derived.Test.YtgbaakopneldaaaDoorCards
import Derived.Test.YtgbaakopneldaaaDoorTie
import Derived.Test.YtgbaakopneldaaaDoorM0
import Derived.Test.YtgbaakopneldaaaDoorM14
import Derived.WalkKit
import Derived.ProofKit
import Derived.OpenShut
import Derived.ShutString
import Derived.ChangeOld
import Derived.Below
import Derived.SizedLaws
import Derived.Deep.DeepHandedRow
import Derived.LaidMore
import Derived.Lay
import Derived.SevenTiedAt
section
namespace Go.Proofs.YtgbaakopneldaaaDoor.XL
open Go.RowKit Go.Proofs.YtgbaakopneldaaaDoor.ExtM Go.Proofs.YtgbaakopneldaaaDoor.XK Go.Proofs.YtgbaakopneldaaaDoorW.PrintWords Go.Proofs.YtgbaakopneldaaaDoorW.PrintLast Go.Proofs.YtgbaakopneldaaaDoorW.PrintMore
attribute [local go_sem] max2_int min2_int max_two min_two max_three min_three max_four min_four   -- for this text's walks alone
set_option linter.unusedVariables false
set_option linter.unusedSimpArgs false
/-! ### stolelaw5_TokenComments: function 5 -/
mutual
def stolelaw5_TokenComments.l0 : Nat → ByteArray → ByteArray → ByteArray → ByteArray → Int → Option (Bool)
 | 0, _, _, _, _, _ => none
 | k + 1, x0, x1, x5, x6, x7 => if x7 < (x0.size : Int) then (stolelaw5_TokenComments.j1 k x0 x1 x5 x6 x7 (decide (x7 < 300))) else (stolelaw5_TokenComments.j1 k x0 x1 x5 x6 x7 false)
def stolelaw5_TokenComments.j1 : Nat → ByteArray → ByteArray → ByteArray → ByteArray → Int → Bool → Option (Bool)
 | 0, _, _, _, _, _, _ => none
 | k + 1, x0, x1, x5, x6, x7, x20 => if x20 = true then (if 0 ≤ x7 then (if x7 < (x0.size : Int) then (if (bt x0 x7) = 45 then (stolelaw5_TokenComments.l0 k x0 x1 x5 x6 (wrap64 (x7 + 1))) else (if (bt x0 x7) = 13 then (stolelaw5_TokenComments.l0 k x0 x1 x5 x6 (wrap64 (x7 + 1))) else (if x7 ≤ (wrap64 (x7 + 1)) then (if (wrap64 (x7 + 1)) ≤ (x0.size : Int) then (if x5.size + ((x0.extract (x7 : Int).toNat ((wrap64 (x7 + 1)) : Int).toNat).size) ≤ 9223372036854775807 then (stolelaw5_TokenComments.l0 k x0 x1 (x5 ++ (x0.extract (x7 : Int).toNat ((wrap64 (x7 + 1)) : Int).toNat)) x6 (wrap64 (x7 + 1))) else (none)) else (none)) else (none)))) else (none)) else (none)) else (stolelaw5_TokenComments.l1 k x1 x5 x6 0)
def stolelaw5_TokenComments.l1 : Nat → ByteArray → ByteArray → ByteArray → Int → Option (Bool)
 | 0, _, _, _, _ => none
 | k + 1, x1, x5, x6, x8 => if x8 < (x1.size : Int) then (stolelaw5_TokenComments.j3 k x1 x5 x6 x8 (decide (x8 < 300))) else (stolelaw5_TokenComments.j3 k x1 x5 x6 x8 false)
def stolelaw5_TokenComments.j3 : Nat → ByteArray → ByteArray → ByteArray → Int → Bool → Option (Bool)
 | 0, _, _, _, _, _ => none
 | k + 1, x1, x5, x6, x8, x47 => if x47 = true then (if 0 ≤ x8 then (if x8 < (x1.size : Int) then (if (bt x1 x8) = 62 then (stolelaw5_TokenComments.l1 k x1 x5 x6 (wrap64 (x8 + 1))) else (if (bt x1 x8) = 13 then (stolelaw5_TokenComments.l1 k x1 x5 x6 (wrap64 (x8 + 1))) else (if x8 ≤ (wrap64 (x8 + 1)) then (if (wrap64 (x8 + 1)) ≤ (x1.size : Int) then (if x6.size + ((x1.extract (x8 : Int).toNat ((wrap64 (x8 + 1)) : Int).toNat).size) ≤ 9223372036854775807 then (stolelaw5_TokenComments.l1 k x1 x5 (x6 ++ (x1.extract (x8 : Int).toNat ((wrap64 (x8 + 1)) : Int).toNat)) (wrap64 (x8 + 1))) else (none)) else (none)) else (none)))) else (none)) else (none)) else (if 5 + x5.size ≤ 9223372036854775807 then (if 5 + x5.size + 5 ≤ 9223372036854775807 then (if 5 + x5.size + 5 + x6.size ≤ 9223372036854775807 then (if 5 + x5.size + 5 + x6.size + 2 ≤ 9223372036854775807 then ((tok_Tokens.f (((((⟨#[97, 60, 33, 45, 45]⟩ : ByteArray) ++ x5) ++ (⟨#[45, 45, 62, 60, 33]⟩ : ByteArray)) ++ x6) ++ (⟨#[62, 122]⟩ : ByteArray))).bind fun bt186 => ((stolelaw0_Num.f bt186.2).bind fun t190 => (if t190 = 0 then ((stolelaw0_SameTokens.f bt186.1 (([(⟨0, (⟨#[]⟩ : ByteArray), (⟨#[97]⟩ : ByteArray), ([] : List (S47)), false⟩ : S30), (⟨3, (⟨#[]⟩ : ByteArray), x5, ([] : List (S47)), false⟩ : S30), (⟨3, (⟨#[]⟩ : ByteArray), x6, ([] : List (S47)), false⟩ : S30), (⟨0, (⟨#[]⟩ : ByteArray), (⟨#[122]⟩ : ByteArray), ([] : List (S47)), false⟩ : S30)] : List (S30)))).bind fun t194 => (some t194)) else (some false)))) else (none)) else (none)) else (none)) else (none))
end
def stolelaw5_TokenComments.f (k : Nat) (a0 : ByteArray) (a1 : ByteArray) : Option (Bool) := (stolelaw5_awake.f k).bind fun t185 => (if t185 = true then (stolelaw5_TokenComments.l0 k a0 a1 (⟨#[]⟩ : ByteArray) (⟨#[113]⟩ : ByteArray) 0) else (some false))
theorem stolelaw5_TokenComments.mono_l : ∀ k, (∀ y0 y1 y2 y3 y4, LeO (stolelaw5_TokenComments.l0 k y0 y1 y2 y3 y4) (stolelaw5_TokenComments.l0 (k + 1) y0 y1 y2 y3 y4)) ∧ (∀ y0 y1 y2 y3 y4 y5, LeO (stolelaw5_TokenComments.j1 k y0 y1 y2 y3 y4 y5) (stolelaw5_TokenComments.j1 (k + 1) y0 y1 y2 y3 y4 y5)) ∧ (∀ y0 y1 y2 y3, LeO (stolelaw5_TokenComments.l1 k y0 y1 y2 y3) (stolelaw5_TokenComments.l1 (k + 1) y0 y1 y2 y3)) ∧ (∀ y0 y1 y2 y3 y4, LeO (stolelaw5_TokenComments.j3 k y0 y1 y2 y3 y4) (stolelaw5_TokenComments.j3 (k + 1) y0 y1 y2 y3 y4))
 | 0 => ⟨fun _ _ _ _ _ r h => by simp [stolelaw5_TokenComments.l0] at h, fun _ _ _ _ _ _ r h => by simp [stolelaw5_TokenComments.j1] at h, fun _ _ _ _ r h => by simp [stolelaw5_TokenComments.l1] at h, fun _ _ _ _ _ r h => by simp [stolelaw5_TokenComments.j3] at h⟩
 | k + 1 => by
  obtain ⟨ih0, ih1, ih2, ih3⟩ := stolelaw5_TokenComments.mono_l k
  refine ⟨?_, ?_, ?_, ?_⟩
  ·intro y0 y1 y2 y3 y4
   unfold stolelaw5_TokenComments.l0
   repeat' first
   | (with_reducible exact ih0 _ _ _ _ _)
   | (with_reducible exact ih1 _ _ _ _ _ _)
   | (with_reducible exact ih2 _ _ _ _)
   | (with_reducible exact ih3 _ _ _ _ _)
   | (with_reducible exact stolelaw5_awake.mono _)
   | (with_reducible exact LeO.refl _)
   | (with_reducible exact LeO.none _)
   | (with_reducible refine LeO.ite ?_ ?_)
   | (with_reducible refine LeO.bind ?_ (fun _ => ?_))
   | exact ih0 _ _ _ _ _
   | exact ih1 _ _ _ _ _ _
   | exact ih2 _ _ _ _
   | exact ih3 _ _ _ _ _
   | exact stolelaw5_awake.mono _
   | exact LeO.none _
   | refine LeO.ite ?_ ?_
   | refine LeO.bind ?_ (fun _ => ?_)
  ·intro y0 y1 y2 y3 y4 y5
   unfold stolelaw5_TokenComments.j1
   repeat' first
   | (with_reducible exact ih0 _ _ _ _ _)
   | (with_reducible exact ih1 _ _ _ _ _ _)
   | (with_reducible exact ih2 _ _ _ _)
   | (with_reducible exact ih3 _ _ _ _ _)
   | (with_reducible exact stolelaw5_awake.mono _)
   | (with_reducible exact LeO.refl _)
   | (with_reducible exact LeO.none _)
   | (with_reducible refine LeO.ite ?_ ?_)
   | (with_reducible refine LeO.bind ?_ (fun _ => ?_))
   | exact ih0 _ _ _ _ _
   | exact ih1 _ _ _ _ _ _
   | exact ih2 _ _ _ _
   | exact ih3 _ _ _ _ _
   | exact stolelaw5_awake.mono _
   | exact LeO.none _
   | refine LeO.ite ?_ ?_
   | refine LeO.bind ?_ (fun _ => ?_)
  ·intro y0 y1 y2 y3
   unfold stolelaw5_TokenComments.l1
   repeat' first
   | (with_reducible exact ih0 _ _ _ _ _)
   | (with_reducible exact ih1 _ _ _ _ _ _)
   | (with_reducible exact ih2 _ _ _ _)
   | (with_reducible exact ih3 _ _ _ _ _)
   | (with_reducible exact stolelaw5_awake.mono _)
   | (with_reducible exact LeO.refl _)
   | (with_reducible exact LeO.none _)
   | (with_reducible refine LeO.ite ?_ ?_)
   | (with_reducible refine LeO.bind ?_ (fun _ => ?_))
   | exact ih0 _ _ _ _ _
   | exact ih1 _ _ _ _ _ _
   | exact ih2 _ _ _ _
   | exact ih3 _ _ _ _ _
   | exact stolelaw5_awake.mono _
   | exact LeO.none _
   | refine LeO.ite ?_ ?_
   | refine LeO.bind ?_ (fun _ => ?_)
  ·intro y0 y1 y2 y3 y4
   unfold stolelaw5_TokenComments.j3
   repeat' first
   | (with_reducible exact ih0 _ _ _ _ _)
   | (with_reducible exact ih1 _ _ _ _ _ _)
   | (with_reducible exact ih2 _ _ _ _)
   | (with_reducible exact ih3 _ _ _ _ _)
   | (with_reducible exact stolelaw5_awake.mono _)
   | (with_reducible exact LeO.refl _)
   | (with_reducible exact LeO.none _)
   | (with_reducible refine LeO.ite ?_ ?_)
   | (with_reducible refine LeO.bind ?_ (fun _ => ?_))
   | exact ih0 _ _ _ _ _
   | exact ih1 _ _ _ _ _ _
   | exact ih2 _ _ _ _
   | exact ih3 _ _ _ _ _
   | exact stolelaw5_awake.mono _
   | exact LeO.none _
   | refine LeO.ite ?_ ?_
   | refine LeO.bind ?_ (fun _ => ?_)
theorem stolelaw5_TokenComments.mono : ∀ a0 a1 k, LeO (stolelaw5_TokenComments.f k a0 a1) (stolelaw5_TokenComments.f (k + 1) a0 a1) := by
 intro a0 a1 k
 obtain ⟨ih0, ih1, ih2, ih3⟩ := stolelaw5_TokenComments.mono_l k
 unfold stolelaw5_TokenComments.f
 repeat' first
   | (with_reducible exact ih0 _ _ _ _ _)
   | (with_reducible exact ih1 _ _ _ _ _ _)
   | (with_reducible exact ih2 _ _ _ _)
   | (with_reducible exact ih3 _ _ _ _ _)
   | (with_reducible exact stolelaw5_awake.mono _)
   | (with_reducible exact LeO.refl _)
   | (with_reducible exact LeO.none _)
   | (with_reducible refine LeO.ite ?_ ?_)
   | (with_reducible refine LeO.bind ?_ (fun _ => ?_))
   | exact ih0 _ _ _ _ _
   | exact ih1 _ _ _ _ _ _
   | exact ih2 _ _ _ _
   | exact ih3 _ _ _ _ _
   | exact stolelaw5_awake.mono _
   | exact LeO.none _
   | refine LeO.ite ?_ ?_
   | refine LeO.bind ?_ (fun _ => ?_)
set_option maxHeartbeats 8000000 in
set_option maxRecDepth 100000 in
theorem stolelaw5_TokenComments.calls (k : Nat) (a0 : ByteArray) (a1 : ByteArray) (r : Bool) (w : World) (hT : Tabs w) (h : stolelaw5_TokenComments.f k a0 a1 = some r) (hr : r = true) :
  Calls Tryd.prog 5 #[.string a0, .string a1] w fun e w' => e = .returned (.bool r) ∧ Below w.heap.size w w' := by
 have hu30 := Tryd.underlying30
 have HT := Aside0.mk hT
 clear hT
 have HB := Aside0.mk (Below.refl w.heap.size w)
 have H : ((stolelaw5_awake.f k).bind fun t185 => (if t185 = true then (stolelaw5_TokenComments.l0 k a0 a1 (⟨#[]⟩ : ByteArray) (⟨#[113]⟩ : ByteArray) 0) else (some false))) = some r := h
 clear h
 replace H := Option.bind_eq_some_iff.mp H
 obtain ⟨t185, A30, H⟩ := H
 replace H : (if t185 = true then (stolelaw5_TokenComments.l0 k a0 a1 (⟨#[]⟩ : ByteArray) (⟨#[113]⟩ : ByteArray) 0) else (some false)) = some r := H
 have A3 := Aside0.mk A30
 clear A30
 by_cases c4 : t185 = true
 ·subst c4
  have H1 : (stolelaw5_TokenComments.l0 k a0 a1 (⟨#[]⟩ : ByteArray) (⟨#[113]⟩ : ByteArray) 0) = some r := by rw [if_pos rfl] at H; exact H
  clear H
  have H := H1
  clear H1
  have H' := Aside0.mk H
  clear H
  go_enter Tryd.func5, Tryd.ntmps5
  go_wp2_with (first | ((with_reducible refine gate_callee (f := 10) rfl ?_); refine goesL_ (some 11) rfl rfl Tryd.func10 (by kernel_rfl) rfl #[] rfl (by (try simp only [List.map_toArray, List.map_cons, List.map_nil]); first | done | rfl | (simp only [List.length_drop, List.length_take]; rfl)) ?_; (with_reducible refine (stolelaw5_awake.calls k  true _ (tabs_below HT.out (by repeat (first | (with_reducible first | exact HB.out | apply below_alloc | apply pw_below_drewN | apply below_drew1) | exact HB.out))) A3.out rfl).mono ?_); rintro e w5 ⟨rfl, hb⟩; refine ⟨_, rfl, ?_⟩; have n0_ := Aside0.mk (below_step (by repeat (first | (with_reducible first | exact HB.out | apply below_alloc | apply pw_below_drewN | apply below_drew1) | exact HB.out)) hb); clear HB; have HB := n0_; clear n0_; (try clear hb); (try clear hb2); (try clear hk); (try clear hi)))
  go_loopg [5, 7] k (fun kq v5 v7 w' => ∃ (x5_1 : ByteArray) (x7_1 : Int), v5 = .string x5_1 ∧ v7 = .int .i64 x7_1 ∧ Aside0 (stolelaw5_TokenComments.l0 kq a0 a1 x5_1 (⟨#[113]⟩ : ByteArray) x7_1 = some r) ∧ Aside0 (kq ≤ k) ∧ Aside0 (Below w.heap.size w w'))
  case atStart => exact ⟨((⟨#[]⟩ : ByteArray)), (0), (by first | rfl | (simp; done) | (simp [*]; done)), (by first | rfl | (simp; done) | (simp [*]; done)), H', ⟨Nat.le_refl _⟩, ⟨by repeat (first | (with_reducible first | exact HB.out | apply below_alloc | apply pw_below_drewN | apply below_drew1) | exact HB.out)⟩⟩
  case round =>
   clear H'
   try clear c1
   try clear p2
   try clear c4
   try clear c5
   obtain ⟨x5_1, x7_1, rfl, rfl, HA, HK1, HB⟩ := hrel
   cases gk with
   | zero => exact absurd HA.out (by simp [stolelaw5_TokenComments.l0])
   | succ k1 =>
    have H := HA.out
    clear HA
    simp only [stolelaw5_TokenComments.l0] at H
    have HC6 := Aside0.mk H
    clear H
    go_upto_region 5 with (fail)
    go_cut [20] (fun v20 wc => ∃ (kq : Nat) (x20_5 : Bool), v20 = .bool x20_5 ∧ Aside0 (stolelaw5_TokenComments.j1 kq a0 a1 x5_1 (⟨#[113]⟩ : ByteArray) x7_1 x20_5 = some r) ∧ Aside0 (kq ≤ k1) ∧ Aside0 (Below w.heap.size w wc))
    case first =>
     have H := HC6.out
     clear HC6
     by_cases c7 : x7_1 < (a0.size : Int)
     ·rw [if_pos c7] at H
      have c7b0 : decide (x7_1 < (a0.size : Int)) = true := decide_eq_true c7
      clear c7
      (first | rw [c7b0] | (simp only [i64_w, i32_w]; rw [c7b0]) | skip)
      have H' := Aside0.mk H
      clear H
      go_wp2
      go_meet
      case rel => exact ⟨_, (decide (x7_1 < 300)), (by first | rfl | (simp; done) | (simp [*]; done)), H', ⟨by have := HK1.out; first | omega | exact Nat.le_refl _⟩, ⟨by repeat (first | (with_reducible first | exact HB.out | apply below_alloc | apply pw_below_drewN | apply below_drew1) | exact HB.out)⟩⟩
     ·rw [if_neg c7] at H
      have c7b0 : decide (x7_1 < (a0.size : Int)) = false := decide_eq_false c7
      clear c7
      (first | rw [c7b0] | (simp only [i64_w, i32_w]; rw [c7b0]) | skip)
      have H' := Aside0.mk H
      clear H
      go_wp2
      go_meet
      case rel => exact ⟨_, (false), (by first | rfl | (simp; done) | (simp [*]; done)), H', ⟨by have := HK1.out; first | omega | exact Nat.le_refl _⟩, ⟨by repeat (first | (with_reducible first | exact HB.out | apply below_alloc | apply pw_below_drewN | apply below_drew1) | exact HB.out)⟩⟩
    case rest =>
     clear HC6
     try clear c1
     try clear p2
     try clear c4
     try clear c5
     try clear c7
     try clear c7b0
     try clear p2
     obtain ⟨kq, x20_5, rfl, HA, HJ5, HB⟩ := hcut
     cases kq with
     | zero => exact absurd HA.out (by simp [stolelaw5_TokenComments.j1])
     | succ kj5 =>
      have H := HA.out
      clear HA
      simp only [stolelaw5_TokenComments.j1] at H
      by_cases c8 : x20_5 = true
      ·subst c8
       have H1 : (if 0 ≤ x7_1 then (if x7_1 < (a0.size : Int) then (if (bt a0 x7_1) = 45 then (stolelaw5_TokenComments.l0 kj5 a0 a1 x5_1 (⟨#[113]⟩ : ByteArray) (wrap64 (x7_1 + 1))) else (if (bt a0 x7_1) = 13 then (stolelaw5_TokenComments.l0 kj5 a0 a1 x5_1 (⟨#[113]⟩ : ByteArray) (wrap64 (x7_1 + 1))) else (if x7_1 ≤ (wrap64 (x7_1 + 1)) then (if (wrap64 (x7_1 + 1)) ≤ (a0.size : Int) then (if x5_1.size + ((a0.extract (x7_1 : Int).toNat ((wrap64 (x7_1 + 1)) : Int).toNat).size) ≤ 9223372036854775807 then (stolelaw5_TokenComments.l0 kj5 a0 a1 (x5_1 ++ (a0.extract (x7_1 : Int).toNat ((wrap64 (x7_1 + 1)) : Int).toNat)) (⟨#[113]⟩ : ByteArray) (wrap64 (x7_1 + 1))) else (none)) else (none)) else (none)))) else (none)) else (none)) = some r := by rw [if_pos rfl] at H; exact H
       clear H
       have H := H1
       clear H1
       by_cases c9 : 0 ≤ x7_1
       ·rw [if_pos c9] at H
        have c9b0 : decide (0 ≤ x7_1) = true := decide_eq_true c9
        clear c9
        by_cases c10 : x7_1 < (a0.size : Int)
        ·rw [if_pos c10] at H
         have c10b0 : decide (x7_1 < (a0.size : Int)) = true := decide_eq_true c10
         clear c10
         by_cases c12 : (bt a0 x7_1) = 45
         ·rw [if_pos c12] at H
          have c12b0 : ((bt a0 x7_1) == 45) = true := beq_iff_eq.mpr c12
          have c12b1 : ((bt a0 x7_1) != 45) = false := bne_eq_false_iff_eq.mpr c12
          clear c12
          have H' := Aside0.mk H
          clear H
          have p11 : 0 ≤ (x7_1 : Int) := of_decide_eq_true (by first | (with_reducible assumption) | assumption)
          have q11 : x7_1 < (a0.size : Int) := of_decide_eq_true (by first | (with_reducible assumption) | assumption)
          have hx11 := bt_at a0 x7_1
          replace p11 := eq_true p11
          replace q11 := eq_true q11
          go_wp2
          go_roundg kj5
          case measure => have := HK1.out; have := HJ5.out; omega
          case rel => exact ⟨(x5_1), (wrap64 (x7_1 + 1)), (by first | rfl | (simp; done) | (simp [*]; done)), (by first | rfl | (simp; done) | (simp [*]; done)), H', ⟨by have := HK1.out; have := HJ5.out; omega⟩, ⟨by repeat (first | (with_reducible first | exact HB.out | apply below_alloc | apply pw_below_drewN | apply below_drew1) | exact HB.out)⟩⟩
         ·rw [if_neg c12] at H
          have c12b0 : ((bt a0 x7_1) == 45) = false := beq_eq_false_iff_ne.mpr c12
          have c12b1 : ((bt a0 x7_1) != 45) = true := bne_iff_ne.mpr c12
          by_cases c14 : (bt a0 x7_1) = 13
          ·rw [if_pos c14] at H
           have c14b0 : ((bt a0 x7_1) == 13) = true := beq_iff_eq.mpr c14
           have c14b1 : ((bt a0 x7_1) != 13) = false := bne_eq_false_iff_eq.mpr c14
           clear c14
           have H' := Aside0.mk H
           clear H
           have p11 : 0 ≤ (x7_1 : Int) := of_decide_eq_true (by first | (with_reducible assumption) | assumption)
           have q11 : x7_1 < (a0.size : Int) := of_decide_eq_true (by first | (with_reducible assumption) | assumption)
           have hx11 := bt_at a0 x7_1
           replace p11 := eq_true p11
           replace q11 := eq_true q11
           have p13 : 0 ≤ (x7_1 : Int) := of_decide_eq_true (by first | (with_reducible assumption) | assumption)
           have q13 : x7_1 < (a0.size : Int) := of_decide_eq_true (by first | (with_reducible assumption) | assumption)
           have hx13 := bt_at a0 x7_1
           replace p13 := eq_true p13
           replace q13 := eq_true q13
           go_wp2
           go_roundg kj5
           case measure => have := HK1.out; have := HJ5.out; omega
           case rel => exact ⟨(x5_1), (wrap64 (x7_1 + 1)), (by first | rfl | (simp; done) | (simp [*]; done)), (by first | rfl | (simp; done) | (simp [*]; done)), H', ⟨by have := HK1.out; have := HJ5.out; omega⟩, ⟨by repeat (first | (with_reducible first | exact HB.out | apply below_alloc | apply pw_below_drewN | apply below_drew1) | exact HB.out)⟩⟩
          ·rw [if_neg c14] at H
           have c14b0 : ((bt a0 x7_1) == 13) = false := beq_eq_false_iff_ne.mpr c14
           have c14b1 : ((bt a0 x7_1) != 13) = true := bne_iff_ne.mpr c14
           have c15b0 := eq_true (of_decide_eq_true (by first | (with_reducible assumption) | assumption) : 0 ≤ x7_1)
           by_cases c16 : x7_1 ≤ (wrap64 (x7_1 + 1))
           ·rw [if_pos c16] at H
            have c16b0 := eq_true c16
            have c16b1 : decide (x7_1 ≤ (wrap64 (x7_1 + 1))) = true := decide_eq_true c16
            by_cases c17 : (wrap64 (x7_1 + 1)) ≤ (a0.size : Int)
            ·rw [if_pos c17] at H
             have c17b0 := eq_true c17
             have c17b1 : decide ((wrap64 (x7_1 + 1)) ≤ (a0.size : Int)) = true := decide_eq_true c17
             by_cases c18 : x5_1.size + ((a0.extract (x7_1 : Int).toNat ((wrap64 (x7_1 + 1)) : Int).toNat).size) ≤ 9223372036854775807
             ·rw [if_pos c18] at H
              have c18b0 := eq_true c18
              have c18b1 : decide (x5_1.size + ((a0.extract (x7_1 : Int).toNat ((wrap64 (x7_1 + 1)) : Int).toNat).size) ≤ 9223372036854775807) = true := decide_eq_true c18
              try have c18b2 : (9223372036854775807 < x5_1.size + ((a0.extract (x7_1 : Int).toNat ((wrap64 (x7_1 + 1)) : Int).toNat).size)) = False := eq_false (Nat.not_lt.2 c18)
              have H' := Aside0.mk H
              clear H
              have p11 : 0 ≤ (x7_1 : Int) := of_decide_eq_true (by first | (with_reducible assumption) | assumption)
              have q11 : x7_1 < (a0.size : Int) := of_decide_eq_true (by first | (with_reducible assumption) | assumption)
              have hx11 := bt_at a0 x7_1
              replace p11 := eq_true p11
              replace q11 := eq_true q11
              have p13 : 0 ≤ (x7_1 : Int) := of_decide_eq_true (by first | (with_reducible assumption) | assumption)
              have q13 : x7_1 < (a0.size : Int) := of_decide_eq_true (by first | (with_reducible assumption) | assumption)
              have hx13 := bt_at a0 x7_1
              replace p13 := eq_true p13
              replace q13 := eq_true q13
              go_wp2
              go_roundg kj5
              case measure => have := HK1.out; have := HJ5.out; omega
              case rel => exact ⟨(x5_1 ++ (a0.extract (x7_1 : Int).toNat ((wrap64 (x7_1 + 1)) : Int).toNat)), (wrap64 (x7_1 + 1)), (by first | rfl | (simp; done) | (simp [*]; done)), (by first | rfl | (simp; done) | (simp [*]; done)), H', ⟨by have := HK1.out; have := HJ5.out; omega⟩, ⟨by repeat (first | (with_reducible first | exact HB.out | apply below_alloc | apply pw_below_drewN | apply below_drew1) | exact HB.out)⟩⟩
             ·rw [if_neg c18] at H
              exact absurd H (by simp)
            ·rw [if_neg c17] at H
             exact absurd H (by simp)
           ·rw [if_neg c16] at H
            exact absurd H (by simp)
        ·rw [if_neg c10] at H
         exact absurd H (by simp)
       ·rw [if_neg c9] at H
        exact absurd H (by simp)
      ·replace c8 := Bool.eq_false_iff.mpr c8
       subst c8
       have H1 : (stolelaw5_TokenComments.l1 kj5 a1 x5_1 (⟨#[113]⟩ : ByteArray) 0) = some r := by rw [if_neg (show ¬ (false = true) by decide)] at H; exact H
       clear H
       have H := H1
       clear H1
       have H' := Aside0.mk H
       clear H
       go_wp2
       go_loopg [6, 8] kj5 (fun kq v6 v8 w' => ∃ (x6_3 : ByteArray) (x8_3 : Int), v6 = .string x6_3 ∧ v8 = .int .i64 x8_3 ∧ Aside0 (stolelaw5_TokenComments.l1 kq a1 x5_1 x6_3 x8_3 = some r) ∧ Aside0 (kq ≤ kj5) ∧ Aside0 (Below w.heap.size w w'))
       case atStart => exact ⟨((⟨#[113]⟩ : ByteArray)), (0), (by first | rfl | (simp; done) | (simp [*]; done)), (by first | rfl | (simp; done) | (simp [*]; done)), H', ⟨Nat.le_refl _⟩, ⟨by repeat (first | (with_reducible first | exact HB.out | apply below_alloc | apply pw_below_drewN | apply below_drew1) | exact HB.out)⟩⟩
       case round =>
        clear H'
        try clear c1
        try clear p1
        try clear q1
        try clear hx1
        try clear p2
        try clear c4
        try clear c5
        try clear p6
        try clear c7
        try clear c7b0
        try clear c8
        try clear c9
        try clear c9b0
        try clear c10
        try clear c10b0
        try clear p11
        try clear q11
        try clear hx11
        try clear c12
        try clear c12b0
        try clear c12b1
        try clear p13
        try clear q13
        try clear hx13
        try clear c14
        try clear c14b0
        try clear c14b1
        try clear c15
        try clear c15b0
        try clear c16
        try clear c16b0
        try clear c16b1
        try clear c17
        try clear c17b0
        try clear c17b1
        try clear c18
        try clear c18b0
        try clear c18b1
        try clear c18b2
        try clear p11
        try clear p13
        try clear p2
        try clear q11
        try clear q13
        obtain ⟨x6_3, x8_3, rfl, rfl, HA, HK3, HB⟩ := hrel
        cases gk with
        | zero => exact absurd HA.out (by simp [stolelaw5_TokenComments.l1])
        | succ k3 =>
         have H := HA.out
         clear HA
         simp only [stolelaw5_TokenComments.l1] at H
         have HC19 := Aside0.mk H
         clear H
         go_upto_region 10 with (fail)
         go_cut [47] (fun v47 wc => ∃ (kq : Nat) (x47_18 : Bool), v47 = .bool x47_18 ∧ Aside0 (stolelaw5_TokenComments.j3 kq a1 x5_1 x6_3 x8_3 x47_18 = some r) ∧ Aside0 (kq ≤ k3) ∧ Aside0 (Below w.heap.size w wc))
         case first =>
          have H := HC19.out
          clear HC19
          by_cases c20 : x8_3 < (a1.size : Int)
          ·rw [if_pos c20] at H
           have c20b0 : decide (x8_3 < (a1.size : Int)) = true := decide_eq_true c20
           clear c20
           (first | rw [c20b0] | (simp only [i64_w, i32_w]; rw [c20b0]) | skip)
           have H' := Aside0.mk H
           clear H
           go_wp2
           go_meet
           case rel => exact ⟨_, (decide (x8_3 < 300)), (by first | rfl | (simp; done) | (simp [*]; done)), H', ⟨by have := HK1.out; have := HJ5.out; have := HK3.out; first | omega | exact Nat.le_refl _⟩, ⟨by repeat (first | (with_reducible first | exact HB.out | apply below_alloc | apply pw_below_drewN | apply below_drew1) | exact HB.out)⟩⟩
          ·rw [if_neg c20] at H
           have c20b0 : decide (x8_3 < (a1.size : Int)) = false := decide_eq_false c20
           clear c20
           (first | rw [c20b0] | (simp only [i64_w, i32_w]; rw [c20b0]) | skip)
           have H' := Aside0.mk H
           clear H
           go_wp2
           go_meet
           case rel => exact ⟨_, (false), (by first | rfl | (simp; done) | (simp [*]; done)), H', ⟨by have := HK1.out; have := HJ5.out; have := HK3.out; first | omega | exact Nat.le_refl _⟩, ⟨by repeat (first | (with_reducible first | exact HB.out | apply below_alloc | apply pw_below_drewN | apply below_drew1) | exact HB.out)⟩⟩
         case rest =>
          clear HC19
          try clear c1
          try clear p1
          try clear q1
          try clear hx1
          try clear c2
          try clear p2
          try clear c4
          try clear c5
          try clear p6
          try clear c7
          try clear c7b0
          try clear c8
          try clear c9
          try clear c9b0
          try clear c10
          try clear c10b0
          try clear p11
          try clear q11
          try clear hx11
          try clear c12
          try clear c12b0
          try clear c12b1
          try clear p13
          try clear q13
          try clear hx13
          try clear c14
          try clear c14b0
          try clear c14b1
          try clear c15
          try clear c15b0
          try clear c16
          try clear c16b0
          try clear c16b1
          try clear c17
          try clear c17b0
          try clear c17b1
          try clear c18
          try clear c18b0
          try clear c18b1
          try clear c18b2
          try clear c20
          try clear c20b0
          try clear p1
          try clear p11
          try clear p13
          try clear p2
          try clear p6
          try clear q1
          try clear q11
          try clear q13
          obtain ⟨kq, x47_18, rfl, HA, HJ18, HB⟩ := hcut
          cases kq with
          | zero => exact absurd HA.out (by simp [stolelaw5_TokenComments.j3])
          | succ kj18 =>
           have H := HA.out
           clear HA
           simp only [stolelaw5_TokenComments.j3] at H
           by_cases c21 : x47_18 = true
           ·subst c21
            have H1 : (if 0 ≤ x8_3 then (if x8_3 < (a1.size : Int) then (if (bt a1 x8_3) = 62 then (stolelaw5_TokenComments.l1 kj18 a1 x5_1 x6_3 (wrap64 (x8_3 + 1))) else (if (bt a1 x8_3) = 13 then (stolelaw5_TokenComments.l1 kj18 a1 x5_1 x6_3 (wrap64 (x8_3 + 1))) else (if x8_3 ≤ (wrap64 (x8_3 + 1)) then (if (wrap64 (x8_3 + 1)) ≤ (a1.size : Int) then (if x6_3.size + ((a1.extract (x8_3 : Int).toNat ((wrap64 (x8_3 + 1)) : Int).toNat).size) ≤ 9223372036854775807 then (stolelaw5_TokenComments.l1 kj18 a1 x5_1 (x6_3 ++ (a1.extract (x8_3 : Int).toNat ((wrap64 (x8_3 + 1)) : Int).toNat)) (wrap64 (x8_3 + 1))) else (none)) else (none)) else (none)))) else (none)) else (none)) = some r := by rw [if_pos rfl] at H; exact H
            clear H
            have H := H1
            clear H1
            by_cases c22 : 0 ≤ x8_3
            ·rw [if_pos c22] at H
             have c22b0 : decide (0 ≤ x8_3) = true := decide_eq_true c22
             clear c22
             by_cases c23 : x8_3 < (a1.size : Int)
             ·rw [if_pos c23] at H
              have c23b0 : decide (x8_3 < (a1.size : Int)) = true := decide_eq_true c23
              clear c23
              by_cases c25 : (bt a1 x8_3) = 62
              ·rw [if_pos c25] at H
               have c25b0 : ((bt a1 x8_3) == 62) = true := beq_iff_eq.mpr c25
               have c25b1 : ((bt a1 x8_3) != 62) = false := bne_eq_false_iff_eq.mpr c25
               clear c25
               have H' := Aside0.mk H
               clear H
               have p24 : 0 ≤ (x8_3 : Int) := of_decide_eq_true (by first | (with_reducible assumption) | assumption)
               have q24 : x8_3 < (a1.size : Int) := of_decide_eq_true (by first | (with_reducible assumption) | assumption)
               have hx24 := bt_at a1 x8_3
               replace p24 := eq_true p24
               replace q24 := eq_true q24
               go_wp2
               go_roundg kj18
               case measure => have := HK1.out; have := HJ5.out; have := HK3.out; have := HJ18.out; omega
               case rel => exact ⟨(x6_3), (wrap64 (x8_3 + 1)), (by first | rfl | (simp; done) | (simp [*]; done)), (by first | rfl | (simp; done) | (simp [*]; done)), H', ⟨by have := HK1.out; have := HJ5.out; have := HK3.out; have := HJ18.out; omega⟩, ⟨by repeat (first | (with_reducible first | exact HB.out | apply below_alloc | apply pw_below_drewN | apply below_drew1) | exact HB.out)⟩⟩
              ·rw [if_neg c25] at H
               have c25b0 : ((bt a1 x8_3) == 62) = false := beq_eq_false_iff_ne.mpr c25
               have c25b1 : ((bt a1 x8_3) != 62) = true := bne_iff_ne.mpr c25
               by_cases c27 : (bt a1 x8_3) = 13
               ·rw [if_pos c27] at H
                have c27b0 : ((bt a1 x8_3) == 13) = true := beq_iff_eq.mpr c27
                have c27b1 : ((bt a1 x8_3) != 13) = false := bne_eq_false_iff_eq.mpr c27
                clear c27
                have H' := Aside0.mk H
                clear H
                have p24 : 0 ≤ (x8_3 : Int) := of_decide_eq_true (by first | (with_reducible assumption) | assumption)
                have q24 : x8_3 < (a1.size : Int) := of_decide_eq_true (by first | (with_reducible assumption) | assumption)
                have hx24 := bt_at a1 x8_3
                replace p24 := eq_true p24
                replace q24 := eq_true q24
                have p26 : 0 ≤ (x8_3 : Int) := of_decide_eq_true (by first | (with_reducible assumption) | assumption)
                have q26 : x8_3 < (a1.size : Int) := of_decide_eq_true (by first | (with_reducible assumption) | assumption)
                have hx26 := bt_at a1 x8_3
                replace p26 := eq_true p26
                replace q26 := eq_true q26
                go_wp2
                go_roundg kj18
                case measure => have := HK1.out; have := HJ5.out; have := HK3.out; have := HJ18.out; omega
                case rel => exact ⟨(x6_3), (wrap64 (x8_3 + 1)), (by first | rfl | (simp; done) | (simp [*]; done)), (by first | rfl | (simp; done) | (simp [*]; done)), H', ⟨by have := HK1.out; have := HJ5.out; have := HK3.out; have := HJ18.out; omega⟩, ⟨by repeat (first | (with_reducible first | exact HB.out | apply below_alloc | apply pw_below_drewN | apply below_drew1) | exact HB.out)⟩⟩
               ·rw [if_neg c27] at H
                have c27b0 : ((bt a1 x8_3) == 13) = false := beq_eq_false_iff_ne.mpr c27
                have c27b1 : ((bt a1 x8_3) != 13) = true := bne_iff_ne.mpr c27
                have c28b0 := eq_true (of_decide_eq_true (by first | (with_reducible assumption) | assumption) : 0 ≤ x8_3)
                by_cases c29 : x8_3 ≤ (wrap64 (x8_3 + 1))
                ·rw [if_pos c29] at H
                 have c29b0 := eq_true c29
                 have c29b1 : decide (x8_3 ≤ (wrap64 (x8_3 + 1))) = true := decide_eq_true c29
                 by_cases c30 : (wrap64 (x8_3 + 1)) ≤ (a1.size : Int)
                 ·rw [if_pos c30] at H
                  have c30b0 := eq_true c30
                  have c30b1 : decide ((wrap64 (x8_3 + 1)) ≤ (a1.size : Int)) = true := decide_eq_true c30
                  by_cases c31 : x6_3.size + ((a1.extract (x8_3 : Int).toNat ((wrap64 (x8_3 + 1)) : Int).toNat).size) ≤ 9223372036854775807
                  ·rw [if_pos c31] at H
                   have c31b0 := eq_true c31
                   have c31b1 : decide (x6_3.size + ((a1.extract (x8_3 : Int).toNat ((wrap64 (x8_3 + 1)) : Int).toNat).size) ≤ 9223372036854775807) = true := decide_eq_true c31
                   try have c31b2 : (9223372036854775807 < x6_3.size + ((a1.extract (x8_3 : Int).toNat ((wrap64 (x8_3 + 1)) : Int).toNat).size)) = False := eq_false (Nat.not_lt.2 c31)
                   have H' := Aside0.mk H
                   clear H
                   have p24 : 0 ≤ (x8_3 : Int) := of_decide_eq_true (by first | (with_reducible assumption) | assumption)
                   have q24 : x8_3 < (a1.size : Int) := of_decide_eq_true (by first | (with_reducible assumption) | assumption)
                   have hx24 := bt_at a1 x8_3
                   replace p24 := eq_true p24
                   replace q24 := eq_true q24
                   have p26 : 0 ≤ (x8_3 : Int) := of_decide_eq_true (by first | (with_reducible assumption) | assumption)
                   have q26 : x8_3 < (a1.size : Int) := of_decide_eq_true (by first | (with_reducible assumption) | assumption)
                   have hx26 := bt_at a1 x8_3
                   replace p26 := eq_true p26
                   replace q26 := eq_true q26
                   go_wp2
                   go_roundg kj18
                   case measure => have := HK1.out; have := HJ5.out; have := HK3.out; have := HJ18.out; omega
                   case rel => exact ⟨(x6_3 ++ (a1.extract (x8_3 : Int).toNat ((wrap64 (x8_3 + 1)) : Int).toNat)), (wrap64 (x8_3 + 1)), (by first | rfl | (simp; done) | (simp [*]; done)), (by first | rfl | (simp; done) | (simp [*]; done)), H', ⟨by have := HK1.out; have := HJ5.out; have := HK3.out; have := HJ18.out; omega⟩, ⟨by repeat (first | (with_reducible first | exact HB.out | apply below_alloc | apply pw_below_drewN | apply below_drew1) | exact HB.out)⟩⟩
                  ·rw [if_neg c31] at H
                   exact absurd H (by simp)
                 ·rw [if_neg c30] at H
                  exact absurd H (by simp)
                ·rw [if_neg c29] at H
                 exact absurd H (by simp)
             ·rw [if_neg c23] at H
              exact absurd H (by simp)
            ·rw [if_neg c22] at H
             exact absurd H (by simp)
           ·replace c21 := Bool.eq_false_iff.mpr c21
            subst c21
            have H1 : (if 5 + x5_1.size ≤ 9223372036854775807 then (if 5 + x5_1.size + 5 ≤ 9223372036854775807 then (if 5 + x5_1.size + 5 + x6_3.size ≤ 9223372036854775807 then (if 5 + x5_1.size + 5 + x6_3.size + 2 ≤ 9223372036854775807 then ((tok_Tokens.f (((((⟨#[97, 60, 33, 45, 45]⟩ : ByteArray) ++ x5_1) ++ (⟨#[45, 45, 62, 60, 33]⟩ : ByteArray)) ++ x6_3) ++ (⟨#[62, 122]⟩ : ByteArray))).bind fun bt186 => ((stolelaw0_Num.f bt186.2).bind fun t190 => (if t190 = 0 then ((stolelaw0_SameTokens.f bt186.1 (([(⟨0, (⟨#[]⟩ : ByteArray), (⟨#[97]⟩ : ByteArray), ([] : List (S47)), false⟩ : S30), (⟨3, (⟨#[]⟩ : ByteArray), x5_1, ([] : List (S47)), false⟩ : S30), (⟨3, (⟨#[]⟩ : ByteArray), x6_3, ([] : List (S47)), false⟩ : S30), (⟨0, (⟨#[]⟩ : ByteArray), (⟨#[122]⟩ : ByteArray), ([] : List (S47)), false⟩ : S30)] : List (S30)))).bind fun t194 => (some t194)) else (some false)))) else (none)) else (none)) else (none)) else (none)) = some r := by rw [if_neg (show ¬ (false = true) by decide)] at H; exact H
            clear H
            have H := H1
            clear H1
            by_cases c32 : 5 + x5_1.size ≤ 9223372036854775807
            ·rw [if_pos c32] at H
             have c32b0 := eq_true c32
             have c32b1 : decide (5 + x5_1.size ≤ 9223372036854775807) = true := decide_eq_true c32
             try have c32b2 : (9223372036854775807 < 5 + x5_1.size) = False := eq_false (Nat.not_lt.2 c32)
             by_cases c33 : 5 + x5_1.size + 5 ≤ 9223372036854775807
             ·rw [if_pos c33] at H
              have c33b0 := eq_true c33
              have c33b1 : decide (5 + x5_1.size + 5 ≤ 9223372036854775807) = true := decide_eq_true c33
              try have c33b2 : (9223372036854775807 < 5 + x5_1.size + 5) = False := eq_false (Nat.not_lt.2 c33)
              by_cases c34 : 5 + x5_1.size + 5 + x6_3.size ≤ 9223372036854775807
              ·rw [if_pos c34] at H
               have c34b0 := eq_true c34
               have c34b1 : decide (5 + x5_1.size + 5 + x6_3.size ≤ 9223372036854775807) = true := decide_eq_true c34
               try have c34b2 : (9223372036854775807 < 5 + x5_1.size + 5 + x6_3.size) = False := eq_false (Nat.not_lt.2 c34)
               by_cases c35 : 5 + x5_1.size + 5 + x6_3.size + 2 ≤ 9223372036854775807
               ·rw [if_pos c35] at H
                have c35b0 := eq_true c35
                have c35b1 : decide (5 + x5_1.size + 5 + x6_3.size + 2 ≤ 9223372036854775807) = true := decide_eq_true c35
                try have c35b2 : (9223372036854775807 < 5 + x5_1.size + 5 + x6_3.size + 2) = False := eq_false (Nat.not_lt.2 c35)
                replace H := Option.bind_eq_some_iff.mp H
                obtain ⟨⟨t186, t187⟩, A360, H⟩ := H
                replace H : ((stolelaw0_Num.f t187).bind fun t190 => (if t190 = 0 then ((stolelaw0_SameTokens.f t186 (([(⟨0, (⟨#[]⟩ : ByteArray), (⟨#[97]⟩ : ByteArray), ([] : List (S47)), false⟩ : S30), (⟨3, (⟨#[]⟩ : ByteArray), x5_1, ([] : List (S47)), false⟩ : S30), (⟨3, (⟨#[]⟩ : ByteArray), x6_3, ([] : List (S47)), false⟩ : S30), (⟨0, (⟨#[]⟩ : ByteArray), (⟨#[122]⟩ : ByteArray), ([] : List (S47)), false⟩ : S30)] : List (S30)))).bind fun t194 => (some t194)) else (some false))) = some r := H
                have A36 := Aside0.mk A360
                clear A360
                replace H := Option.bind_eq_some_iff.mp H
                obtain ⟨t190, A370, H⟩ := H
                replace H : (if t190 = 0 then ((stolelaw0_SameTokens.f t186 (([(⟨0, (⟨#[]⟩ : ByteArray), (⟨#[97]⟩ : ByteArray), ([] : List (S47)), false⟩ : S30), (⟨3, (⟨#[]⟩ : ByteArray), x5_1, ([] : List (S47)), false⟩ : S30), (⟨3, (⟨#[]⟩ : ByteArray), x6_3, ([] : List (S47)), false⟩ : S30), (⟨0, (⟨#[]⟩ : ByteArray), (⟨#[122]⟩ : ByteArray), ([] : List (S47)), false⟩ : S30)] : List (S30)))).bind fun t194 => (some t194)) else (some false)) = some r := H
                have A37 := Aside0.mk A370
                clear A370
                by_cases c38 : t190 = 0
                ·rw [if_pos c38] at H
                 have c38b0 : (t190 == 0) = true := beq_iff_eq.mpr c38
                 have c38b1 : (t190 != 0) = false := bne_eq_false_iff_eq.mpr c38
                 clear c38
                 obtain ⟨y191, hy191⟩ : ∃ y_ : List (S30), y_ = (([(⟨0, (⟨#[]⟩ : ByteArray), (⟨#[97]⟩ : ByteArray), ([] : List (S47)), false⟩ : S30), (⟨3, (⟨#[]⟩ : ByteArray), x5_1, ([] : List (S47)), false⟩ : S30), (⟨3, (⟨#[]⟩ : ByteArray), x6_3, ([] : List (S47)), false⟩ : S30), (⟨0, (⟨#[]⟩ : ByteArray), (⟨#[122]⟩ : ByteArray), ([] : List (S47)), false⟩ : S30)] : List (S30))) := ⟨_, rfl⟩
                 replace H : ((stolelaw0_SameTokens.f t186 y191).bind fun t194 => (some t194)) = some r := by first | (rw [hy191]; with_reducible exact H) | (have H2_ := (Option.bind_some _ _).symm.trans H; rw [hy191]; with_reducible exact H2_) | (have H2_ := (Option.bind_some _ _).symm.trans H; with_reducible exact H2_) | with_reducible exact H | (rw [hy191]; exact H) | exact H
                 have Ny191 := Aside0.mk hy191
                 clear hy191
                 replace H := Option.bind_eq_some_iff.mp H
                 obtain ⟨t194, A390, H⟩ := H
                 replace H : (some t194) = some r := H
                 have A39 := Aside0.mk A390
                 clear A390
                 obtain rfl := Option.some.inj H
                 go_wp2_with (first | ((with_reducible refine gate_callee (f := 11) rfl ?_); refine goesL_ (some 74) rfl rfl Tryd.func11 (by kernel_rfl) rfl #[.string (((((⟨#[97, 60, 33, 45, 45]⟩ : ByteArray) ++ x5_1) ++ (⟨#[45, 45, 62, 60, 33]⟩ : ByteArray)) ++ x6_3) ++ (⟨#[62, 122]⟩ : ByteArray))] rfl (by (try simp only [List.map_toArray, List.map_cons, List.map_nil]); first | done | rfl | (simp only [List.length_drop, List.length_take]; rfl)) ?_; (with_reducible refine (tok_Tokens.calls (((((⟨#[97, 60, 33, 45, 45]⟩ : ByteArray) ++ x5_1) ++ (⟨#[45, 45, 62, 60, 33]⟩ : ByteArray)) ++ x6_3) ++ (⟨#[62, 122]⟩ : ByteArray)) t186 t187 _ (tabs_below HT.out (by repeat (first | (with_reducible first | exact HB.out | apply below_alloc | apply pw_below_drewN | apply below_drew1) | exact HB.out))) A36.out).mono ?_); rintro e w40 ⟨v188, rfl, ho0, hb⟩; refine ⟨_, rfl, ?_⟩; have n0_ := Aside0.mk (Kd.S_lower ho0 (below_size (by repeat (first | (with_reducible first | exact HB.out | apply below_alloc | apply pw_below_drewN | apply below_drew1) | exact HB.out)))); have n1_ := Aside0.mk (below_step (by repeat (first | (with_reducible first | exact HB.out | apply below_alloc | apply pw_below_drewN | apply below_drew1) | exact HB.out)) hb); clear HB; have HO189 := n0_; have HB := n1_; clear n0_ n1_; (try clear hb); (try clear hb2); (try clear hk); (try clear hi); (try clear ho0)) | ((with_reducible refine gate_callee (f := 12) rfl ?_); refine goesL_ (some 78) rfl rfl Tryd.func12 (by kernel_rfl) rfl #[.int .i64 t187] rfl (by (try simp only [List.map_toArray, List.map_cons, List.map_nil]); first | done | rfl | (simp only [List.length_drop, List.length_take]; rfl)) ?_; (with_reducible refine (stolelaw0_Num.calls t187 t190 _ A37.out).mono ?_); rintro e w' ⟨rfl, ⟨nd, rfl⟩⟩; refine ⟨_, rfl, ?_⟩) | ((with_reducible refine gate_dst (N := 88) rfl ?_); (try (refine gate_guard (by rfl) ?_; dsimp only)); refine Kd.S_lit k30 _ 30 ?hg (N := 88) ?hd (xs := ([(⟨0, (⟨#[]⟩ : ByteArray), (⟨#[97]⟩ : ByteArray), ([] : List (S47)), false⟩ : S30), (⟨3, (⟨#[]⟩ : ByteArray), x5_1, ([] : List (S47)), false⟩ : S30), (⟨3, (⟨#[]⟩ : ByteArray), x6_3, ([] : List (S47)), false⟩ : S30), (⟨0, (⟨#[]⟩ : ByteArray), (⟨#[122]⟩ : ByteArray), ([] : List (S47)), false⟩ : S30)] : List (S30))) (inner := [.int .i64 0, .string (⟨#[]⟩ : ByteArray), .string (⟨#[97]⟩ : ByteArray), .slice none 0 0, .bool false, .int .i64 3, .string (⟨#[]⟩ : ByteArray), .string x5_1, .slice none 0 0, .bool false, .int .i64 3, .string (⟨#[]⟩ : ByteArray), .string x6_3, .slice none 0 0, .bool false, .int .i64 0, .string (⟨#[]⟩ : ByteArray), .string (⟨#[122]⟩ : ByteArray), .slice none 0 0, .bool false]) (ok := fun _ => True) (okp := fun _ => True) ?hr ?hp (fun _ hk => hk) trivial (Below.refl _ _) (Nat.le_refl _) (by simp) ?_; (case hd => rfl); (case hg => rfl); (case hr => first | (go_simp; done) | (go_simp; rfl)); (case hp => exact (Reps.c5 (show Kd.M k30 _ _ _ (⟨0, (⟨#[]⟩ : ByteArray), (⟨#[97]⟩ : ByteArray), ([] : List (S47)), false⟩ : S30) [.int .i64 0, .string (⟨#[]⟩ : ByteArray), .string (⟨#[97]⟩ : ByteArray), .slice none 0 0, .bool false] from (k30_mkM _ _ _ (⟨0, (⟨#[]⟩ : ByteArray), (⟨#[97]⟩ : ByteArray), ([] : List (S47)), false⟩ : S30) (Kd.R_nil _ _ _ _ _))) (Reps.c5 (show Kd.M k30 _ _ _ (⟨3, (⟨#[]⟩ : ByteArray), x5_1, ([] : List (S47)), false⟩ : S30) [.int .i64 3, .string (⟨#[]⟩ : ByteArray), .string x5_1, .slice none 0 0, .bool false] from (k30_mkM _ _ _ (⟨3, (⟨#[]⟩ : ByteArray), x5_1, ([] : List (S47)), false⟩ : S30) (Kd.R_nil _ _ _ _ _))) (Reps.c5 (show Kd.M k30 _ _ _ (⟨3, (⟨#[]⟩ : ByteArray), x6_3, ([] : List (S47)), false⟩ : S30) [.int .i64 3, .string (⟨#[]⟩ : ByteArray), .string x6_3, .slice none 0 0, .bool false] from (k30_mkM _ _ _ (⟨3, (⟨#[]⟩ : ByteArray), x6_3, ([] : List (S47)), false⟩ : S30) (Kd.R_nil _ _ _ _ _))) (Reps.c5 (show Kd.M k30 _ _ _ (⟨0, (⟨#[]⟩ : ByteArray), (⟨#[122]⟩ : ByteArray), ([] : List (S47)), false⟩ : S30) [.int .i64 0, .string (⟨#[]⟩ : ByteArray), .string (⟨#[122]⟩ : ByteArray), .slice none 0 0, .bool false] from (k30_mkM _ _ _ (⟨0, (⟨#[]⟩ : ByteArray), (⟨#[122]⟩ : ByteArray), ([] : List (S47)), false⟩ : S30) (Kd.R_nil _ _ _ _ _))) (Reps.none _ _)))))); intro v192 w41 ho42 hb hg_ hnew_; clear hg_ hnew_; (first | rw [← Ny191.out] at ho42 | (simp only [Int.reduceToNat] at ho42; rw [← Ny191.out] at ho42)); have n0_ := Aside0.mk (Kd.S_elder' (by (with_reducible repeat (first | apply Kd.S_alloc | apply Kd.S_drewN | apply Kd.S_drew)); exact HO189.out) (Kd.S_base ho42) hb); have n1_ := Aside0.mk (Kd.S_lower (Kd.S_new' ho42 (Kd.S_lt (by (with_reducible repeat (first | apply Kd.S_alloc | apply Kd.S_drewN | apply Kd.S_drew)); exact HO189.out))) (below_size (by repeat (first | (with_reducible first | exact HB.out | apply below_alloc | apply pw_below_drewN | apply below_drew1) | exact HB.out)))); have n2_ := Aside0.mk (below_step (by repeat (first | (with_reducible first | exact HB.out | apply below_alloc | apply pw_below_drewN | apply below_drew1) | exact HB.out)) hb); clear HO189; clear HB; have HO189 := n0_; have HO193 := n1_; have HB := n2_; clear n0_ n1_ n2_; clear hb ho42; obtain ⟨Ao43, co43, eo43⟩ := Kd.S_slice HO189.out; subst eo43; obtain ⟨Ao44, co44, eo44⟩ := Kd.S_slice HO193.out; subst eo44) | (go_at_call 14; (with_reducible refine (stolelaw0_SameTokens.calls _ _ t186 _ _ y191 t194 _ ?side1 ?side2 ?side3 ?side4 A39.out).mono ?_); (case side1 => repeat (first | exact (Kd.S_reads' HO189.out).2.2 | (with_reducible refine Kd.C_alloc ?_ _) | (with_reducible refine Kd.C_drewN ?_ _) | (with_reducible refine Kd.C_drew ?_))); (case side2 => exact (Kd.S_reads' HO189.out).2.1); (case side3 => repeat (first | exact (Kd.S_reads' HO193.out).2.2 | (with_reducible refine Kd.C_alloc ?_ _) | (with_reducible refine Kd.C_drewN ?_ _) | (with_reducible refine Kd.C_drew ?_))); (case side4 => exact (Kd.S_reads' HO193.out).2.1); rintro e w' ⟨rfl, ⟨nd, rfl⟩⟩))
                 go_ret
                 exact ⟨by first | rfl | (simp [errW_none, errW_some] <;> rfl) | (simp [*, errW_none, errW_some] <;> rfl), by repeat (first | (with_reducible first | exact HB.out | apply below_alloc | apply pw_below_drewN | apply below_drew1) | exact HB.out)⟩
                ·rw [if_neg c38] at H
                 have c38b0 : (t190 == 0) = false := beq_eq_false_iff_ne.mpr c38
                 have c38b1 : (t190 != 0) = true := bne_iff_ne.mpr c38
                 obtain rfl := Option.some.inj H
                 exact absurd hr (by simp)
               ·rw [if_neg c35] at H
                exact absurd H (by simp)
              ·rw [if_neg c34] at H
               exact absurd H (by simp)
             ·rw [if_neg c33] at H
              exact absurd H (by simp)
            ·rw [if_neg c32] at H
             exact absurd H (by simp)
 ·replace c4 := Bool.eq_false_iff.mpr c4
  subst c4
  have H1 : (some false) = some r := by rw [if_neg (show ¬ (false = true) by decide)] at H; exact H
  clear H
  have H := H1
  clear H1
  obtain rfl := Option.some.inj H
  exact absurd hr (by simp)
/-- THE ONE PURE STATEMENT of stolelaw5_TokenComments: yours. -/
def stolelaw5_TokenComments.Pure : Prop := ∀ (a0 : ByteArray) (a1 : ByteArray), a0.size ≤ 140737488351232 → a1.size ≤ 140737488351232 → ∃ k, stolelaw5_TokenComments.f k a0 a1 = some true
theorem stolelaw5_TokenComments.walk (P : stolelaw5_TokenComments.Pure) (a0 : ByteArray) (a1 : ByteArray) (w : World) (hT : Tabs w) (w0 : a0.size ≤ 140737488351232) (w1 : a1.size ≤ 140737488351232) :
  Calls Tryd.prog 5 #[.string a0, .string a1] w fun e w' => e = .returned (.bool true) ∧ Below w.heap.size w w' := by
 obtain ⟨k, h⟩ := P a0 a1 w0 w1
 refine (stolelaw5_TokenComments.calls k a0 a1 true w hT h rfl).mono ?_
 rintro e w' ⟨rfl, hd⟩
 exact ⟨rfl, hd⟩
end Go.Proofs.YtgbaakopneldaaaDoor.XL
end
section
namespace Go.Proofs.YtgbaakopneldaaaDoor.P5
open Go.RowKit Go.Proofs.YtgbaakopneldaaaDoor.XK Go.Proofs.YtgbaakopneldaaaDoor.XL Go.Proofs.YtgbaakopneldaaaDoor.Tk Go.Proofs.YtgbaakopneldaaaDoor.ExtM Go.Proofs.YtgbaakopneldaaaDoor.Base Go.Proofs.YtgbaakopneldaaaDoorW.PrintWords Go.Proofs.YtgbaakopneldaaaDoorW.PrintLast Go.Proofs.YtgbaakopneldaaaDoorW.PrintMore
open Go.Proofs.YtgbaakopneldaaaDoor.Ln (linesB linesL lines_none)
set_option linter.unusedVariables false
set_option linter.unusedSimpArgs false
set_option maxRecDepth 100000
theorem run1 : runM m0 [97, 60, 33, 45, 45] = ⟨atS 15, [], [97], [60, 33, 45, 45], ⟨#[]⟩, [], none⟩ := by kernel_rfl
theorem run2 (l : List UInt8) : runM ⟨atS 15, [], [97], l, ⟨#[]⟩, [], none⟩ [45, 45, 62, 60, 33, 113] =
    ⟨atS 18, [] ++ txtL ⟨#[]⟩ [97] ++ [⟨3, ⟨#[]⟩, bts (comL (atS 17) (l ++ [45] ++ [45])), [], false⟩], [] ++ [], [60] ++ [33] ++ [113], ⟨#[]⟩, [], none⟩ := by kernel_rfl
theorem run3 (o : List S30) (l : List UInt8) : runM ⟨atS 18, o, [] ++ [], l, ⟨#[]⟩, [], none⟩ [62, 122] =
    ⟨atS 0, o ++ txtL ⟨#[]⟩ ([] ++ []) ++ [⟨3, ⟨#[]⟩, bts (comL (atS 18) l), [], false⟩], [], [] ++ [122], ⟨#[]⟩, [], none⟩ := by kernel_rfl
theorem comments_toks (c b : List UInt8) (hc : ∀ x ∈ c, x ≠ 45 ∧ x ≠ 13) (hb : ∀ x ∈ b, x ≠ 62 ∧ x ≠ 13) (hn : c.length + b.length ≤ 60000) :
    tokensM ([97, 60, 33, 45, 45] ++ c ++ [45, 45, 62, 60, 33] ++ (113 :: b) ++ [62, 122]) =
      ([⟨0, ⟨#[]⟩, bts [97], [], false⟩, ⟨3, ⟨#[]⟩, bts c, [], false⟩, ⟨3, ⟨#[]⟩, bts (113 :: b), [], false⟩, ⟨0, ⟨#[]⟩, bts [122], [], false⟩], 0) := by
  unfold tokensM
  rw [if_neg (by simp; omega)]
  rw [lines_none _ (by
    intro x hx
    simp only [List.mem_append, List.mem_cons, List.not_mem_nil, or_false] at hx
    rcases hx with (((hx | hx) | hx) | hx | hx) | hx
    · rcases hx with rfl | rfl | rfl | rfl | rfl <;> decide
    · exact (hc x hx).2
    · rcases hx with rfl | rfl | rfl | rfl | rfl <;> decide
    · subst hx; decide
    · exact (hb x hx).2
    · rcases hx with rfl | rfl <;> decide)]
  rw [show [97, 60, 33, 45, 45] ++ c ++ [45, 45, 62, 60, 33] ++ (113 :: b) ++ [62, 122] = [97, 60, 33, 45, 45] ++ (c ++ ([45, 45, 62, 60, 33, 113] ++ (b ++ [62, 122]))) by simp]
  rw [run_app, run1, run_app, run_comment _ c rfl (fun x hx => (hc x hx).1)]
  show (endM (runM ⟨atS 15, [], [97], [60, 33, 45, 45] ++ c, ⟨#[]⟩, [], none⟩ _), _) = _
  rw [run_app, run2, run_app, run_bogus _ b rfl (fun x hx => (hb x hx).1)]
  show (endM (runM ⟨atS 18, _, [] ++ [], ([60] ++ [33] ++ [113]) ++ b, ⟨#[]⟩, [], none⟩ _), _) = _
  rw [run3]
  have e1 : comL (atS 17) ([60, 33, 45, 45] ++ c ++ [45] ++ [45]) = c := by
    unfold comL
    rw [if_pos (show (atS 17).pos = 17 from rfl), show [60, 33, 45, 45] ++ c ++ [45] ++ [45] = [60, 33, 45, 45] ++ (c ++ [45, 45]) by simp]
    show List.take _ (c ++ [45, 45]) = c
    exact List.take_left' (by simp)
  have e2 : comL (atS 18) (([60] ++ [33] ++ [113]) ++ b) = 113 :: b := by
    unfold comL
    rw [if_neg (by decide)]; rfl
  rw [e1, e2]
  have e3 : restB (atS 0) = true := by decide
  unfold endM
  dsimp only
  rw [if_pos e3]
  simp only [List.nil_append]
  rw [txt_plain ⟨#[]⟩ 97 [] (by simp), txt_plain ⟨#[]⟩ 122 [] (by simp)]
  rfl
theorem same_ok (a b : List S30) (h : a = b) (hs : ∀ x ∈ a, x.f3.length ≤ 4611686018427387904) : stolelaw0_SameTokens.f a b = some true := by
  unfold stolelaw0_SameTokens.f
  rw [if_pos (List.all_eq_true.2 fun x hx => decide_eq_true (hs x hx)), (Tr.allEq_eq Tr.tokEq_iff).2 h]
theorem com_end (t c b : ByteArray) (i : Int) (l : List UInt8) (hc : ∀ x ∈ c.data.toList, x ≠ 45 ∧ x ≠ 13) (hcs : c.size ≤ 300) (hb : b.data.toList = 113 :: l) (hl : ∀ x ∈ l, x ≠ 62 ∧ x ≠ 13) (hbs : b.size ≤ 301) :
    Ev (fun k => stolelaw5_TokenComments.j3 k t c b i false) true := by
  have hc1 : c.data.toList.length = c.size := rfl
  have hb1 : b.data.toList.length = b.size := rfl
  rw [hb] at hb1
  simp only [List.length_cons] at hb1
  refine Ev.step (f := fun k => _) (fun k => by rw [stolelaw5_TokenComments.j3]) ?_
  refine Ev.neg (by simp) ?_
  refine Ev.pos (by omega) (Ev.pos (by omega) (Ev.pos (by omega) (Ev.pos (by omega) ?_)))
  refine Ev.bindC (toks_b _) ?_
  have hp : ((((((⟨#[97, 60, 33, 45, 45]⟩ : ByteArray) ++ c) ++ (⟨#[45, 45, 62, 60, 33]⟩ : ByteArray)) ++ b) ++ (⟨#[62, 122]⟩ : ByteArray))).data.toList = [97, 60, 33, 45, 45] ++ c.data.toList ++ [45, 45, 62, 60, 33] ++ (113 :: l) ++ [62, 122] := by
    simp only [data_append, hb]
  rw [hp, comments_toks _ l hc hl (by omega)]
  refine Ev.bindC rfl (Ev.pos rfl ?_)
  refine Ev.bindC (same_ok _ _ ?_ ?_) (Ev.now true)
  · rw [show bts (113 :: l) = b from (bts_eq hb).symm, show bts c.data.toList = c from (bts_eq rfl).symm]; rfl
  · intro x hx
    simp only [List.mem_cons, List.not_mem_nil, or_false] at hx
    rcases hx with rfl | rfl | rfl | rfl <;> exact Nat.zero_le _
theorem com1 (s c : ByteArray) (hs : s.size ≤ 140737488351232) (hc : ∀ x ∈ c.data.toList, x ≠ 45 ∧ x ≠ 13) (hcs : c.size ≤ 300) : ∀ (d i : Nat) (acc : ByteArray) (l : List UInt8), i + d = 300 → i ≤ s.size → acc.size ≤ i + 1 → acc.data.toList = 113 :: l → (∀ b ∈ l, b ≠ 62 ∧ b ≠ 13) →
    Ev (fun k => stolelaw5_TokenComments.l1 k s c acc (i : Int)) true := by
  intro d
  induction d with
  | zero =>
    intro i acc l hi his hacc ha hl
    have he := com_end s c acc i l hc hcs ha hl (by omega)
    refine Ev.step (f := fun k => _) (fun k => by rw [stolelaw5_TokenComments.l1]) ?_
    by_cases h : i < s.size
    · refine Ev.pos (by omega) ?_
      rw [show decide ((i : Int) < 300) = false from decide_eq_false (by omega)]
      exact he
    · exact Ev.neg (by omega) he
  | succ d ih =>
    intro i acc l hi his hacc ha hl
    have he := com_end s c acc i l hc hcs ha hl (by omega)
    refine Ev.step (f := fun k => _) (fun k => by rw [stolelaw5_TokenComments.l1]) ?_
    by_cases h : i < s.size
    · have hwr : wrap64 ((i : Int) + 1) = ((i + 1 : Nat) : Int) := wrap_next (n := 300) (by omega) (by decide)
      have hskip := ih (i + 1) acc l (by omega) (by omega) (by omega) ha hl
      have hlt : i < s.data.toList.length := by rw [data_length]; exact h
      have hbt : bt s (i : Int) = (((s.data.toList[i]).toNat : Nat) : Int) := by
        rw [bt_list s i h, List.getD_eq_getElem?_getD, List.getElem?_eq_getElem hlt]; rfl
      obtain ⟨x, hx⟩ : ∃ x, s.data.toList[i] = x := ⟨_, rfl⟩
      rw [hx] at hbt
      refine Ev.pos (by omega) ?_
      rw [show decide ((i : Int) < 300) = true from decide_eq_true (by omega)]
      refine Ev.step (f := fun k => _) (fun k => by rw [stolelaw5_TokenComments.j3]) ?_
      refine Ev.pos rfl (Ev.pos (by omega) (Ev.pos (by omega) ?_))
      by_cases h1 : bt s (i : Int) = 62
      · exact Ev.pos h1 (by rw [hwr]; exact hskip)
      refine Ev.neg h1 ?_
      by_cases h2 : bt s (i : Int) = 13
      · exact Ev.pos h2 (by rw [hwr]; exact hskip)
      refine Ev.neg h2 ?_
      have hcut : (s.extract (i : Int).toNat ((i + 1 : Nat) : Int).toNat).data.toList = [x] := by
        rw [Int.toNat_natCast, Int.toNat_natCast, Lib.extract_data, List.drop_eq_getElem_cons hlt, hx, show i + 1 - i = 1 by omega]; rfl
      have hcs1 : (s.extract (i : Int).toNat ((i + 1 : Nat) : Int).toNat).size = 1 := by rw [← data_length, hcut]; rfl
      have hstep := ih (i + 1) (acc ++ s.extract (i : Int).toNat ((i + 1 : Nat) : Int).toNat) (l ++ [x]) (by omega) (by omega) (by rw [size_append, hcs1]; omega) (by rw [data_append, hcut, ha]; rfl) (by
        intro b hb
        rcases List.mem_append.1 hb with hb | hb
        · exact hl b hb
        · have : b = x := by simpa using hb
          subst this
          rw [hbt] at h1 h2
          refine ⟨?_, ?_⟩
          · rcases nat_ne (n := 62) h1 with e | e; exact e; omega
          · rcases nat_ne (n := 13) h2 with e | e; exact e; omega)
      rw [hwr]
      exact Ev.pos (by omega) (Ev.pos (by omega) (Ev.pos (by rw [hcs1]; omega) hstep))
    · exact Ev.neg (by omega) he
theorem com0 (s t : ByteArray) (hs : s.size ≤ 140737488351232) (ht : t.size ≤ 140737488351232) : ∀ (d i : Nat) (acc : ByteArray), i + d = 300 → i ≤ s.size → acc.size ≤ i → (∀ b ∈ acc.data.toList, b ≠ 45 ∧ b ≠ 13) →
    Ev (fun k => stolelaw5_TokenComments.l0 k s t acc ⟨#[113]⟩ (i : Int)) true := by
  intro d
  induction d with
  | zero =>
    intro i acc hi his hacc hP
    have he := com1 t acc ht hP (by omega) 300 0 ⟨#[113]⟩ [] rfl (Nat.zero_le _) (Nat.le_refl _) rfl (by simp)
    have he2 : Ev (fun k => stolelaw5_TokenComments.j1 k s t acc ⟨#[113]⟩ (i : Int) false) true := by
      refine Ev.step (f := fun k => _) (fun k => by rw [stolelaw5_TokenComments.j1]) ?_
      exact Ev.neg (by simp) he
    refine Ev.step (f := fun k => _) (fun k => by rw [stolelaw5_TokenComments.l0]) ?_
    by_cases h : i < s.size
    · refine Ev.pos (by omega) ?_
      rw [show decide ((i : Int) < 300) = false from decide_eq_false (by omega)]
      exact he2
    · exact Ev.neg (by omega) he2
  | succ d ih =>
    intro i acc hi his hacc hP
    refine Ev.step (f := fun k => _) (fun k => by rw [stolelaw5_TokenComments.l0]) ?_
    by_cases h : i < s.size
    · have hwr : wrap64 ((i : Int) + 1) = ((i + 1 : Nat) : Int) := wrap_next (n := 300) (by omega) (by decide)
      have hskip := ih (i + 1) acc (by omega) (by omega) (by omega) hP
      have hlt : i < s.data.toList.length := by rw [data_length]; exact h
      have hbt : bt s (i : Int) = (((s.data.toList[i]).toNat : Nat) : Int) := by
        rw [bt_list s i h, List.getD_eq_getElem?_getD, List.getElem?_eq_getElem hlt]; rfl
      obtain ⟨x, hx⟩ : ∃ x, s.data.toList[i] = x := ⟨_, rfl⟩
      rw [hx] at hbt
      refine Ev.pos (by omega) ?_
      rw [show decide ((i : Int) < 300) = true from decide_eq_true (by omega)]
      refine Ev.step (f := fun k => _) (fun k => by rw [stolelaw5_TokenComments.j1]) ?_
      refine Ev.pos rfl (Ev.pos (by omega) (Ev.pos (by omega) ?_))
      by_cases h1 : bt s (i : Int) = 45
      · exact Ev.pos h1 (by rw [hwr]; exact hskip)
      refine Ev.neg h1 ?_
      by_cases h2 : bt s (i : Int) = 13
      · exact Ev.pos h2 (by rw [hwr]; exact hskip)
      refine Ev.neg h2 ?_
      have hcut : (s.extract (i : Int).toNat ((i + 1 : Nat) : Int).toNat).data.toList = [x] := by
        rw [Int.toNat_natCast, Int.toNat_natCast, Lib.extract_data, List.drop_eq_getElem_cons hlt, hx, show i + 1 - i = 1 by omega]; rfl
      have hcs1 : (s.extract (i : Int).toNat ((i + 1 : Nat) : Int).toNat).size = 1 := by rw [← data_length, hcut]; rfl
      have hstep := ih (i + 1) (acc ++ s.extract (i : Int).toNat ((i + 1 : Nat) : Int).toNat) (by omega) (by omega) (by rw [size_append, hcs1]; omega) (by
        intro b hb
        rw [data_append, hcut] at hb
        rcases List.mem_append.1 hb with hb | hb
        · exact hP b hb
        · have : b = x := by simpa using hb
          subst this
          rw [hbt] at h1 h2
          refine ⟨?_, ?_⟩
          · rcases nat_ne (n := 45) h1 with e | e; exact e; omega
          · rcases nat_ne (n := 13) h2 with e | e; exact e; omega)
      rw [hwr]
      exact Ev.pos (by omega) (Ev.pos (by omega) (Ev.pos (by rw [hcs1]; omega) hstep))
    · have he := com1 t acc ht hP (by omega) 300 0 ⟨#[113]⟩ [] rfl (Nat.zero_le _) (Nat.le_refl _) rfl (by simp)
      refine Ev.neg (by omega) ?_
      refine Ev.step (f := fun k => _) (fun k => by rw [stolelaw5_TokenComments.j1]) ?_
      exact Ev.neg (by simp) he
theorem tokenComments_plain (a0 a1 : ByteArray) (h0 : a0.size ≤ 140737488351232) (h1 : a1.size ≤ 140737488351232) : ∃ k, stolelaw5_TokenComments.f k a0 a1 = some true := by
  refine Ev.rounds ?_
  refine Ev.congr (f := fun k => _) (fun k => by rw [stolelaw5_TokenComments.f]) ?_
  refine Ev.bind awake_ev ?_
  refine Ev.pos rfl ?_
  exact com0 a0 a1 h0 h1 300 0 ⟨#[]⟩ rfl (Nat.zero_le _) (Nat.le_refl _) (fun b hb => by simp at hb)
end Go.Proofs.YtgbaakopneldaaaDoor.P5
end
section
namespace Go.Proofs.YtgbaakopneldaaaDoor.RowTokenComments
open Go.ChangeShapes Go.WideShapes Go.ChangeAt Go.RowKit Go.Proofs.YtgbaakopneldaaaDoorW.PrintWords Go.Proofs.YtgbaakopneldaaaDoorW.PrintLast Go.Proofs.YtgbaakopneldaaaDoor.ExtM
open Go.ChangeMaps (open_string shut_string)
set_option linter.unusedVariables false
theorem own : ownKnob Tryd.prog.godebug = none := by kernel_rfl
set_option maxRecDepth 100000 in
set_option maxHeartbeats 4000000 in
theorem contract (H : Type) (enc : TypeId × Value → H) (W : World) (base : Nat) (args : Array Value) (ds gs : List (DataW H)) (before : List MemPlace)
    (hval0 : ∀ (j : Nat) t v, Tryd.f5.params[j]? = some t → args[j]? = some v → Value.okWide Tryd.prog W .any base t v)
    (hW : DataW.Whole enc Tryd.prog Tryd.f5.params.toList Rows.tokenCommentsSpec.vars false W args.toList ds gs before)
    (hsz0 : (DataW.weightsEach Tryd.prog (Tryd.f5.params.toList ++ Rows.tokenCommentsSpec.plain.varTypes Tryd.prog) (ds ++ gs)).all (· ≤ reachBytes) = true)
    (hL : laidMetH Tryd.prog Rows.tokenCommentsRow.laid W)
    (hsh : W.ShapedOpen Tryd.prog)
    : Calls Tryd.prog 5 args W fun e W' => ∃ v, e = .returned v ∧ Rows.tokenCommentsSpec.post enc Tryd.prog Tryd.f5 false true false false W args v W' := by
  have hsz : (DataW.weightsEach Tryd.prog (Tryd.f5.params.toList ++ Rows.tokenCommentsSpec.plain.varTypes Tryd.prog) (ds ++ gs)).all (· ≤ reachBytes) = true := hsz0
  have hval : ∀ (j : Nat) t v, Tryd.f5.params[j]? = some t → args[j]? = some v → Value.okWide Tryd.prog W .any base t v := hval0
  have hW' := hW
  obtain ⟨p, q, hA0, hV, rfl, hfz, hnd⟩ := hW
  have hA : DataW.TrodAll enc Tryd.prog W 0 (fun _ => true) true Tryd.f5.params.toList args.toList ds p := hA0
  rw [Tryd.params5] at hA hval hsz
  obtain ⟨v0, vs0, d0, ds0, p0, q0, hargs, rfl, rfl, h0, r0⟩ := trodAll_cons hA
  obtain ⟨v1, vs1, d1, ds1, p1, q1, rfl, rfl, rfl, h1, r1⟩ := trodAll_cons r0
  obtain ⟨rfl, rfl, rfl⟩ := trodAll_nil r1
  obtain rfl : args = #[v0, v1] := by cases args; simp_all
  obtain ⟨rfl, rfl⟩ := trodVars_none hV
  obtain ⟨a0, rfl, rfl, rfl, y0⟩ := open_string Tryd.underlying9 (hval 0 9 v0 rfl rfl) h0
  have w0 : a0.size ≤ 140737488351232 := by
    have z := sized_string hsz (j := 0) (t := 9) rfl rfl
    rw [Array.length_toList] at z
    exact z
  obtain ⟨a1, rfl, rfl, rfl, y1⟩ := open_string Tryd.underlying9 (hval 1 9 v1 rfl rfl) h1
  have w1 : a1.size ≤ 140737488351232 := by
    have z := sized_string hsz (j := 1) (t := 9) rfl rfl
    rw [Array.length_toList] at z
    exact z
  clear hA0 hval0 hsz0 hsz hval
  have hT : Tabs W := Tryd.laysM143.s1_3 W hsh
  obtain ⟨k, hk⟩ := P5.tokenComments_plain a0 a1 w0 w1
  refine (XL.stolelaw5_TokenComments.calls k a0 a1 true W hT hk rfl).mono fun e W' ⟨he, bel0⟩ => ?_
  have bel : Below W.heap.size W W' := bel0
  subst he
  simp only [List.append_nil] at hW'
  exact ⟨_, rfl, _, _, _, [], _, [], hW', trodAll_mk1 (shut_bool Tryd.underlying4 _), (trodAll_cons_mk (shut_string Tryd.underlying9 y0) (trodAll_cons_mk (shut_string Tryd.underlying9 y1) trodAll_mk0)), rfl, bel.frame _, fun h => by cases h⟩
theorem laid_met (os : Os) : laidMetH Tryd.prog Rows.tokenCommentsRow.laid ((World.laidAll Tryd.prog os Rows.tokenCommentsRow.laid).forCall (fun _ _ => 0) ⟨#[], #[.string ByteArray.empty, .string ByteArray.empty], []⟩).memory := by
  rw [MakeChecks.laidMetH_plain _ _ _ (by kernel_rfl)]
  exact laidMet_laidAll _ (by kernel_rfl) (by kernel_rfl)
theorem reads (os : Os) {H : Type} (enc : TypeId × Value → H) : ∃ places, DataW.whole enc Tryd.prog ((World.laidAll Tryd.prog os Rows.tokenCommentsRow.laid).forCall (fun _ _ => 0) ⟨#[], #[.string ByteArray.empty, .string ByteArray.empty], []⟩).memory Tryd.f5.params.toList Rows.tokenCommentsSpec.vars false (#[.string ByteArray.empty, .string ByteArray.empty] : Array Value).toList 8 = some ([.lit (.string []), .lit (.string [])], [], places) :=
  ⟨[], by kernel_rfl⟩
set_option maxRecDepth 100000 in
theorem lifted (os : Os) (started : os.Started) (H : Type) (enc : TypeId × Value → H) (F : Stop.Interp) :
    ReturnsInHanded {} Tryd.checked os 5 .any ((OpenSpec.ofChange Rows.tokenCommentsSpec).preRow enc Tryd.prog Tryd.f5 Rows.tokenCommentsRow.domain false Rows.tokenCommentsRow.laid) (((OpenSpec.ofChange Rows.tokenCommentsSpec).at F).post enc Tryd.prog Tryd.f5 false true false false) := by
  obtain ⟨places, hx⟩ := reads os enc
  refine returnsInHanded_of_row (C := Tryd.checked) (s := (OpenSpec.ofChange Rows.tokenCommentsSpec)) own started (by kernel_rfl) Tryd.func5
    (witness_row_at (enc := enc) (C := Tryd.checked) false (World.laidAll Tryd.prog os Rows.tokenCommentsRow.laid) #[.string ByteArray.empty, .string ByteArray.empty] (World.laidAll_os _ _ _) (by kernel_rfl) (by kernel_rfl) (by kernel_rfl)
      (OpenSpec.preRow_of_cond 8 hx (by kernel_rfl) (fun k hk => by cases hk) (by kernel_rfl) (laid_met os))) ?_
  intro W base args ds gs before hval hW hcnd hcond hsz hL hsh _
  exact contract H enc W base args ds gs before hval hW hsz hL hsh
theorem said : Rows.TokenCommentsSaid :=
  OpenClaim.holds_of_cond 5 Tryd.f5 rfl rfl rfl rfl rfl rfl rfl ⟨rfl, rfl, rfl, rfl, rfl⟩ rfl rfl rfl rfl rfl (by kernel_rfl) Tryd.func5 (by kernel_rfl)
    (of_decide_eq_true (by kernel_rfl)) (by unfold Func.isWrapper; first | (rw [if_pos (by decide +kernel)]; kernel_rfl) | (rw [if_neg (by decide +kernel)]; exact ⟨rfl, rfl⟩))
    (fun os started H enc _ F => by rw [OpenClaim.pre_eq_preRow]; exact lifted os started H enc F)
theorem plain (f : FuncId) (fn : Func) (hf : Tryd.pinned.checked.prog.funcNamed "stole/stolelaw5.TokenComments" = some f) (hfn : Tryd.pinned.checked.prog.funcs[f]? = some fn) :
    false = Tryd.pinned.checked.prog.looks [] ∧ ∀ (j : Nat) t, fn.params[j]? = some t → Tryd.pinned.checked.prog.wantsStandIn t = false := by
  obtain rfl : f = 5 := Option.some.inj ((show Tryd.prog.funcNamed "stole/stolelaw5.TokenComments" = some 5 by kernel_rfl).symm.trans hf) |>.symm
  obtain rfl : fn = Tryd.f5 := (Option.some.inj (Tryd.func5.symm.trans hfn)).symm
  refine ⟨by kernel_rfl, fun j t ht => ?_⟩
  rw [Tryd.params5] at ht
  have hm := Array.mem_of_getElem? ht
  have hall : (#[9, 9] : Array TypeId).all (fun t => Tryd.prog.wantsStandIn t == false) = true := by kernel_rfl
  rw [Array.all_eq_true'] at hall
  exact eq_of_beq (hall t hm)
theorem proved : Rows.TokenCommentsCardSaid :=
  Claim7.holds_tied_plain_at .later [] _ _ _ _ said (fun _ h => by cases h) (by kernel_rfl) (fun _ h => by cases h) tokenComments_row_tie rfl ⟨rfl, rfl⟩ (by kernel_rfl) rfl plain (by kernel_rfl)
end Go.Proofs.YtgbaakopneldaaaDoor.RowTokenComments
namespace Go.Proofs.YtgbaakopneldaaaDoor
theorem tokenComments_holds : Rows.TokenCommentsCardSaid := RowTokenComments.proved
#print axioms tokenComments_holds
end Go.Proofs.YtgbaakopneldaaaDoor
end
