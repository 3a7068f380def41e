/- The law stole/stolelaw8.PageRows returns true at every input of its types, and its arguments read behind the call as before. The listed package-level variables are tied to the program's text. No further condition. PageRows, plain: the rounds. PageRows, plain. stolelaw8's awake: true; PageTexts, plain. Laid by xprint.py, a program of this session over the kit's print: for each Go function one Lean function of the same answers, and the walk that shows it. Laid by xprint.py, a program of this session over the kit's print: for each Go function one Lean function of the same answers, and the walk that shows it. -/
import Derived.Test.YtfmcdlbbbmeolaaGreatDoorP0
import Derived.Test.YtfmcdlbbbmeolaaGreatDoorP17
import Derived.Test.YtfmcdlbbbmeolaaGreatDoorP18
import Derived.SizedLaws
import Derived.ChangeSlices
import Derived.Test.YtfmcdlbbbmeolaaGreatDoorCards
import Derived.Test.YtfmcdlbbbmeolaaGreatDoorTie
import Derived.WalkKit
import Derived.ProofKit
import Derived.OpenShut
import Derived.ShutString
import Derived.ChangeOld
import Derived.Below
import Derived.Deep.DeepHandedRow
import Derived.LaidMore
import Derived.Lay
import Derived.SevenTiedAt
section
namespace Go.Proofs.YtfmcdlbbbmeolaaGreatDoor.XP
open Go.RowKit Go.Proofs.YtfmcdlbbbmeolaaGreatDoor.ExtP Go.Proofs.YtfmcdlbbbmeolaaGreatDoor.XK Go.Proofs.YtfmcdlbbbmeolaaGreatDoorW.PrintWords Go.Proofs.YtfmcdlbbbmeolaaGreatDoorW.PrintLast Go.Proofs.YtfmcdlbbbmeolaaGreatDoorW.PrintMore
attribute [local go_sem] max2_int min2_int max_two min_two max_three min_three max_four min_four   -- for this text's walks alone
set_option linter.unusedVariables false
set_option linter.unusedSimpArgs false
-- GIVEN BY HAND: function 24 (stoleref0_Decimal)
/-! ### stolelaw8_PageRows: function 8 -/
mutual
def stolelaw8_PageRows.l0 : Nat → List Int → ByteArray → ByteArray → List Int → Int → Int → Option (Bool)
 | 0, _, _, _, _, _, _ => none
 | k + 1, x0, x3, x4, x5, x6, x7 => if x7 < (x0.length : Int) then (stolelaw8_PageRows.j1 k x0 x3 x4 x5 x6 x7 (decide (x7 < 30))) else (stolelaw8_PageRows.j1 k x0 x3 x4 x5 x6 x7 false)
def stolelaw8_PageRows.j1 : Nat → List Int → ByteArray → ByteArray → List Int → Int → Int → Bool → Option (Bool)
 | 0, _, _, _, _, _, _, _ => none
 | k + 1, x0, x3, x4, x5, x6, x7, x23 => if x23 = true then (if 0 ≤ (wrap64 ((x5.length : Int) - 1)) then (if (wrap64 ((x5.length : Int) - 1)) < (x5.length : Int) then ((stoleref0_Decimal.f k (rd x5 (wrap64 ((x5.length : Int) - 1)))).bind fun t196 => (if 0 ≤ x7 then (if x7 < (x0.length : Int) then (if (Go.bits .and .i64 (rd x0 x7) 3) = 0 then (if x3.size + 6 ≤ 9223372036854775807 then ((stoleref0_Decimal.f k x7).bind fun t198 => (if x3.size + 6 + t198.size ≤ 9223372036854775807 then (if x3.size + 6 + t198.size + 2 ≤ 9223372036854775807 then (if x4.size + t196.size ≤ 9223372036854775807 then (if x4.size + t196.size + 7 ≤ 9223372036854775807 then (if x5.length < 17592186044416 then (stolelaw8_PageRows.l0 k x0 (((x3 ++ (⟨#[60, 117, 32, 107, 61, 39]⟩ : ByteArray)) ++ t198) ++ (⟨#[39, 62]⟩ : ByteArray)) ((x4 ++ t196) ++ (⟨#[32, 101, 32, 117, 32, 107, 10]⟩ : ByteArray)) (x5 ++ [wrap64 (x6 + 1)]) (wrap64 (x6 + 1)) (wrap64 (x7 + 1))) else (none)) else (none)) else (none)) else (none)) else (none))) else (none)) else (if (Go.bits .and .i64 (rd x0 x7) 3) = 1 then (if x3.size + 4 ≤ 9223372036854775807 then ((stoleref0_Decimal.f k x7).bind fun t202 => (if x3.size + 4 + t202.size ≤ 9223372036854775807 then (if x4.size + t196.size ≤ 9223372036854775807 then (if x4.size + t196.size + 6 ≤ 9223372036854775807 then (stolelaw8_PageRows.l0 k x0 ((x3 ++ (⟨#[60, 98, 114, 62]⟩ : ByteArray)) ++ t202) ((x4 ++ t196) ++ (⟨#[32, 101, 32, 98, 114, 10]⟩ : ByteArray)) x5 (wrap64 (x6 + 1)) (wrap64 (x7 + 1))) else (none)) else (none)) else (none))) else (none)) else (if (Go.bits .and .i64 (rd x0 x7) 3) = 2 then (if x3.size + 3 ≤ 9223372036854775807 then ((stoleref0_Decimal.f k x7).bind fun t203 => (if x3.size + 3 + t203.size ≤ 9223372036854775807 then (if x3.size + 3 + t203.size + 1 ≤ 9223372036854775807 then (if x4.size + t196.size ≤ 9223372036854775807 then (if x4.size + t196.size + 4 ≤ 9223372036854775807 then ((stoleref0_Decimal.f k x7).bind fun t204 => (if x4.size + t196.size + 4 + t204.size ≤ 9223372036854775807 then (if x4.size + t196.size + 4 + t204.size + 1 ≤ 9223372036854775807 then (stolelaw8_PageRows.l0 k x0 (((x3 ++ (⟨#[60, 33, 99]⟩ : ByteArray)) ++ t203) ++ (⟨#[62]⟩ : ByteArray)) ((((x4 ++ t196) ++ (⟨#[32, 99, 32, 99]⟩ : ByteArray)) ++ t204) ++ (⟨#[10]⟩ : ByteArray)) x5 (wrap64 (x6 + 1)) (wrap64 (x7 + 1))) else (none)) else (none))) else (none)) else (none)) else (none)) else (none))) else (none)) else (if x3.size + 4 ≤ 9223372036854775807 then (if (x5.length : Int) > 1 then ((some (([] : List Int) : List Int)).bind fun y205 => (if (wrap64 ((x5.length : Int) - 1)) ≤ (x5.length : Int) then ((some (x5.take ((wrap64 ((x5.length : Int) - 1)) : Int).toNat : List Int)).bind fun y208 => (if y205.length + y208.length < 17592186044416 then (stolelaw8_PageRows.l0 k x0 (x3 ++ (⟨#[60, 47, 117, 62]⟩ : ByteArray)) x4 (y205 ++ y208) x6 (wrap64 (x7 + 1))) else (none))) else (none))) else (stolelaw8_PageRows.l0 k x0 (x3 ++ (⟨#[60, 47, 117, 62]⟩ : ByteArray)) x4 x5 x6 (wrap64 (x7 + 1)))) else (none))))) else (none)) else (none))) else (none)) else (none)) else ((page_Parse.f x3).bind fun bt215 => ((page_Skeleton.f bt215.1).bind fun bt219 => ((stolelaw0_Num.f bt215.2).bind fun t221 => (if t221 = 0 then ((stolelaw0_Num.f bt219.2).bind fun t222 => (if t222 = 0 then (some (bt219.1.toList == x4.toList)) else (some false))) else (some false)))))
end
def stolelaw8_PageRows.f (k : Nat) (l0 : List Int) : Option (Bool) := (stolelaw8_awake.f k).bind fun t191 => (if t191 = true then (stolelaw8_PageRows.l0 k l0 (⟨#[]⟩ : ByteArray) (⟨#[]⟩ : ByteArray) (([0] : List Int)) 0 0) else (some false))
theorem stolelaw8_PageRows.mono_l : ∀ k, (∀ y0 y1 y2 y3 y4 y5, LeO (stolelaw8_PageRows.l0 k y0 y1 y2 y3 y4 y5) (stolelaw8_PageRows.l0 (k + 1) y0 y1 y2 y3 y4 y5)) ∧ (∀ y0 y1 y2 y3 y4 y5 y6, LeO (stolelaw8_PageRows.j1 k y0 y1 y2 y3 y4 y5 y6) (stolelaw8_PageRows.j1 (k + 1) y0 y1 y2 y3 y4 y5 y6))
 | 0 => ⟨fun _ _ _ _ _ _ r h => by simp [stolelaw8_PageRows.l0] at h, fun _ _ _ _ _ _ _ r h => by simp [stolelaw8_PageRows.j1] at h⟩
 | k + 1 => by
  obtain ⟨ih0, ih1⟩ := stolelaw8_PageRows.mono_l k
  refine ⟨?_, ?_⟩
  ·intro y0 y1 y2 y3 y4 y5
   unfold stolelaw8_PageRows.l0
   repeat' first
   | (with_reducible exact ih0 _ _ _ _ _ _)
   | (with_reducible exact ih1 _ _ _ _ _ _ _)
   | (with_reducible exact stolelaw8_awake.mono _)
   | (with_reducible exact stoleref0_Decimal.mono _ _)
   | (with_reducible exact LeO.refl _)
   | (with_reducible exact LeO.none _)
   | (with_reducible refine LeO.ite ?_ ?_)
   | (with_reducible refine LeO.bind ?_ (fun _ => ?_))
   | exact ih0 _ _ _ _ _ _
   | exact ih1 _ _ _ _ _ _ _
   | exact stolelaw8_awake.mono _
   | exact stoleref0_Decimal.mono _ _
   | exact LeO.none _
   | refine LeO.ite ?_ ?_
   | refine LeO.bind ?_ (fun _ => ?_)
  ·intro y0 y1 y2 y3 y4 y5 y6
   unfold stolelaw8_PageRows.j1
   repeat' first
   | (with_reducible exact ih0 _ _ _ _ _ _)
   | (with_reducible exact ih1 _ _ _ _ _ _ _)
   | (with_reducible exact stolelaw8_awake.mono _)
   | (with_reducible exact stoleref0_Decimal.mono _ _)
   | (with_reducible exact LeO.refl _)
   | (with_reducible exact LeO.none _)
   | (with_reducible refine LeO.ite ?_ ?_)
   | (with_reducible refine LeO.bind ?_ (fun _ => ?_))
   | exact ih0 _ _ _ _ _ _
   | exact ih1 _ _ _ _ _ _ _
   | exact stolelaw8_awake.mono _
   | exact stoleref0_Decimal.mono _ _
   | exact LeO.none _
   | refine LeO.ite ?_ ?_
   | refine LeO.bind ?_ (fun _ => ?_)
theorem stolelaw8_PageRows.mono : ∀ a0 k, LeO (stolelaw8_PageRows.f k a0) (stolelaw8_PageRows.f (k + 1) a0) := by
 intro a0 k
 obtain ⟨ih0, ih1⟩ := stolelaw8_PageRows.mono_l k
 unfold stolelaw8_PageRows.f
 repeat' first
   | (with_reducible exact ih0 _ _ _ _ _ _)
   | (with_reducible exact ih1 _ _ _ _ _ _ _)
   | (with_reducible exact stolelaw8_awake.mono _)
   | (with_reducible exact stoleref0_Decimal.mono _ _)
   | (with_reducible exact LeO.refl _)
   | (with_reducible exact LeO.none _)
   | (with_reducible refine LeO.ite ?_ ?_)
   | (with_reducible refine LeO.bind ?_ (fun _ => ?_))
   | exact ih0 _ _ _ _ _ _
   | exact ih1 _ _ _ _ _ _ _
   | exact stolelaw8_awake.mono _
   | exact stoleref0_Decimal.mono _ _
   | exact LeO.none _
   | refine LeO.ite ?_ ?_
   | refine LeO.bind ?_ (fun _ => ?_)
set_option maxHeartbeats 8000000 in
set_option maxRecDepth 100000 in
theorem stolelaw8_PageRows.calls (k : Nat) (A0 : Option Addr) (c0 : Nat) (l0 : List Int) (r : Bool) (w : World) (hT : Tabs w) (hr0 : Kd.C (Kd.int .i64) w A0 l0.length l0) (hc0 : l0.length ≤ c0) (h : stolelaw8_PageRows.f k l0 = some r) (hr : r = true) :
  Calls Tryz.prog 8 #[.slice A0 l0.length c0] w fun e w' => e = .returned (.bool r) ∧ Below w.heap.size w w' := by
 have HT := Aside0.mk hT
 clear hT
 have HR0 := Aside0.mk hr0
 have HC0 := Aside0.mk hc0
 clear hr0 hc0
 have HB := Aside0.mk (Below.refl w.heap.size w)
 have H : ((stolelaw8_awake.f k).bind fun t191 => (if t191 = true then (stolelaw8_PageRows.l0 k l0 (⟨#[]⟩ : ByteArray) (⟨#[]⟩ : ByteArray) (([0] : List Int)) 0 0) else (some false))) = some r := h
 clear h
 replace H := Option.bind_eq_some_iff.mp H
 obtain ⟨t191, A20, H⟩ := H
 replace H : (if t191 = true then (stolelaw8_PageRows.l0 k l0 (⟨#[]⟩ : ByteArray) (⟨#[]⟩ : ByteArray) (([0] : List Int)) 0 0) else (some false)) = some r := H
 have A2 := Aside0.mk A20
 clear A20
 by_cases c3 : t191 = true
 ·subst c3
  have H1 : (stolelaw8_PageRows.l0 k l0 (⟨#[]⟩ : ByteArray) (⟨#[]⟩ : ByteArray) (([0] : List Int)) 0 0) = some r := by rw [if_pos rfl] at H; exact H
  clear H
  have H := H1
  clear H1
  obtain ⟨y192, hy192⟩ : ∃ y_ : List Int, y_ = (([0] : List Int)) := ⟨_, rfl⟩
  replace H : (stolelaw8_PageRows.l0 k l0 (⟨#[]⟩ : ByteArray) (⟨#[]⟩ : ByteArray) y192 0 0) = some r := by first | (rw [hy192]; with_reducible exact H) | (have H2_ := (Option.bind_some _ _).symm.trans H; rw [hy192]; with_reducible exact H2_) | (have H2_ := (Option.bind_some _ _).symm.trans H; with_reducible exact H2_) | with_reducible exact H | (rw [hy192]; exact H) | exact H
  have Ny192 := Aside0.mk hy192
  clear hy192
  have H' := Aside0.mk H
  clear H
  go_enter Tryz.func8, Tryz.ntmps8
  go_wp2_with (first | ((with_reducible refine gate_callee (f := 36) rfl ?_); refine goesL_ (some 13) rfl rfl Tryz.func36 (by kernel_rfl) rfl #[] rfl (by (try simp only [List.map_toArray, List.map_cons, List.map_nil]); first | done | rfl | (simp only [List.length_drop, List.length_take]; rfl)) ?_; (with_reducible refine (stolelaw8_awake.calls k  true _ (tabs_below HT.out (by repeat (first | (with_reducible first | exact HB.out | apply below_alloc | apply pw_below_drewN | apply below_drew1) | exact HB.out))) A2.out rfl).mono ?_); rintro e w4 ⟨rfl, hb⟩; refine ⟨_, rfl, ?_⟩; have n0_ := Aside0.mk (below_step (by repeat (first | (with_reducible first | exact HB.out | apply below_alloc | apply pw_below_drewN | apply below_drew1) | exact HB.out)) hb); clear HB; have HB := n0_; clear n0_; (try clear hb); (try clear hb2); (try clear hk); (try clear hi)) | ((with_reducible refine gate_dst (N := 15) rfl ?_); refine Kd.R_lit (Kd.int .i64) _ 3 ?hg (N := 15) ?hd (xs := ([0] : List Int)) (inner := [.int .i64 0]) (ok := fun _ => True) (okp := fun _ => True) ?hr ?hp (fun _ hk => hk) trivial (Below.refl _ _) (Nat.le_refl _) (by simp) ?_; (case hd => rfl); (case hg => rfl); (case hr => first | (go_simp; done) | (go_simp; rfl)); (case hp => exact (Reps.one (show Kd.M (Kd.int .i64) _ _ _ 0 [.int .i64 0] from rfl) (Reps.none _ _))); intro v193 w5 ho6 hb hg_ hnew_; clear hg_ hnew_; (first | rw [← Ny192.out] at ho6 | (simp only [Int.reduceToNat] at ho6; rw [← Ny192.out] at ho6)); have n0_ := Aside0.mk (Kd.R_lower ho6 (below_size (by repeat (first | (with_reducible first | exact HB.out | apply below_alloc | apply pw_below_drewN | apply below_drew1) | exact HB.out)))); have n1_ := Aside0.mk (below_step (by repeat (first | (with_reducible first | exact HB.out | apply below_alloc | apply pw_below_drewN | apply below_drew1) | exact HB.out)) hb); clear HB; have HO194 := n0_; have HB := n1_; clear n0_ n1_; clear hb ho6))
  go_loopg [3, 4, 5, 6, 7] k (fun kq v3 v4 v5 v6 v7 w' => ∃ (x3_1 : ByteArray) (x4_1 : ByteArray) (x5_1 : List Int) (x6_1 : Int) (x7_1 : Int), v3 = .string x3_1 ∧ v4 = .string x4_1 ∧ v6 = .int .i64 x6_1 ∧ v7 = .int .i64 x7_1 ∧ Aside0 (stolelaw8_PageRows.l0 kq l0 x3_1 x4_1 x5_1 x6_1 x7_1 = some r) ∧ Aside0 (kq ≤ k) ∧ Aside0 (Kd.R (Kd.int .i64) 3 w' w.heap.size (fun _ => True) v5 x5_1) ∧ Aside0 (Below w.heap.size w w'))
  case atStart => exact ⟨((⟨#[]⟩ : ByteArray)), ((⟨#[]⟩ : ByteArray)), (y192), (0), (0), (by first | rfl | (simp; done) | (simp [*]; done)), (by first | rfl | (simp; done) | (simp [*]; done)), (by first | rfl | (simp; done) | (simp [*]; done)), (by first | rfl | (simp; done) | (simp [*]; done)), H', ⟨Nat.le_refl _⟩, ⟨by (with_reducible repeat (first | apply Kd.R_alloc | apply Kd.R_drewN | apply Kd.R_drew)); exact HO194.out⟩, ⟨by repeat (first | (with_reducible first | exact HB.out | apply below_alloc | apply pw_below_drewN | apply below_drew1) | exact HB.out)⟩⟩
  case round =>
   clear H'
   try clear p2
   try clear c3
   obtain ⟨x3_1, x4_1, x5_1, x6_1, x7_1, rfl, rfl, rfl, rfl, HA, HK1, HO_5, HB⟩ := hrel
   cases gk with
   | zero => exact absurd HA.out (by simp [stolelaw8_PageRows.l0])
   | succ k1 =>
    have H := HA.out
    clear HA
    simp only [stolelaw8_PageRows.l0] at H
    have HC7 := Aside0.mk H
    clear H
    go_upto_region 6 with (fail)
    go_cut [23] (fun v23 wc => ∃ (kq : Nat) (x23_6 : Bool), v23 = .bool x23_6 ∧ Aside0 (stolelaw8_PageRows.j1 kq l0 x3_1 x4_1 x5_1 x6_1 x7_1 x23_6 = some r) ∧ Aside0 (kq ≤ k1) ∧ Aside0 (Kd.R (Kd.int .i64) 3 wc w.heap.size (fun _ => True) u5 x5_1) ∧ Aside0 (Below w.heap.size w wc))
    case first =>
     have H := HC7.out
     clear HC7
     by_cases c8 : x7_1 < (l0.length : Int)
     ·rw [if_pos c8] at H
      have c8b0 : decide (x7_1 < (l0.length : Int)) = true := decide_eq_true c8
      clear c8
      (first | rw [c8b0] | (simp only [i64_w, i32_w]; rw [c8b0]) | skip)
      have H' := Aside0.mk H
      clear H
      go_wp2
      go_meet
      case rel => exact ⟨_, (decide (x7_1 < 30)), (by first | rfl | (simp; done) | (simp [*]; done)), H', ⟨by have := HK1.out; first | omega | exact Nat.le_refl _⟩, ⟨by (with_reducible repeat (first | apply Kd.R_alloc | apply Kd.R_drewN | apply Kd.R_drew)); exact HO_5.out⟩, ⟨by repeat (first | (with_reducible first | exact HB.out | apply below_alloc | apply pw_below_drewN | apply below_drew1) | exact HB.out)⟩⟩
     ·rw [if_neg c8] at H
      have c8b0 : decide (x7_1 < (l0.length : Int)) = false := decide_eq_false c8
      clear c8
      (first | rw [c8b0] | (simp only [i64_w, i32_w]; rw [c8b0]) | skip)
      have H' := Aside0.mk H
      clear H
      go_wp2
      go_meet
      case rel => exact ⟨_, (false), (by first | rfl | (simp; done) | (simp [*]; done)), H', ⟨by have := HK1.out; first | omega | exact Nat.le_refl _⟩, ⟨by (with_reducible repeat (first | apply Kd.R_alloc | apply Kd.R_drewN | apply Kd.R_drew)); exact HO_5.out⟩, ⟨by repeat (first | (with_reducible first | exact HB.out | apply below_alloc | apply pw_below_drewN | apply below_drew1) | exact HB.out)⟩⟩
    case rest =>
     clear HC7
     try clear p2
     try clear c3
     try clear c8
     try clear c8b0
     try clear p2
     obtain ⟨kq, x23_6, rfl, HA, HJ6, HO_5, HB⟩ := hcut
     cases kq with
     | zero => exact absurd HA.out (by simp [stolelaw8_PageRows.j1])
     | succ kj6 =>
      have H := HA.out
      clear HA
      simp only [stolelaw8_PageRows.j1] at H
      by_cases c9 : x23_6 = true
      ·subst c9
       have H1 : (if 0 ≤ (wrap64 ((x5_1.length : Int) - 1)) then (if (wrap64 ((x5_1.length : Int) - 1)) < (x5_1.length : Int) then ((stoleref0_Decimal.f kj6 (rd x5_1 (wrap64 ((x5_1.length : Int) - 1)))).bind fun t196 => (if 0 ≤ x7_1 then (if x7_1 < (l0.length : Int) then (if (Go.bits .and .i64 (rd l0 x7_1) 3) = 0 then (if x3_1.size + 6 ≤ 9223372036854775807 then ((stoleref0_Decimal.f kj6 x7_1).bind fun t198 => (if x3_1.size + 6 + t198.size ≤ 9223372036854775807 then (if x3_1.size + 6 + t198.size + 2 ≤ 9223372036854775807 then (if x4_1.size + t196.size ≤ 9223372036854775807 then (if x4_1.size + t196.size + 7 ≤ 9223372036854775807 then (if x5_1.length < 17592186044416 then (stolelaw8_PageRows.l0 kj6 l0 (((x3_1 ++ (⟨#[60, 117, 32, 107, 61, 39]⟩ : ByteArray)) ++ t198) ++ (⟨#[39, 62]⟩ : ByteArray)) ((x4_1 ++ t196) ++ (⟨#[32, 101, 32, 117, 32, 107, 10]⟩ : ByteArray)) (x5_1 ++ [wrap64 (x6_1 + 1)]) (wrap64 (x6_1 + 1)) (wrap64 (x7_1 + 1))) else (none)) else (none)) else (none)) else (none)) else (none))) else (none)) else (if (Go.bits .and .i64 (rd l0 x7_1) 3) = 1 then (if x3_1.size + 4 ≤ 9223372036854775807 then ((stoleref0_Decimal.f kj6 x7_1).bind fun t202 => (if x3_1.size + 4 + t202.size ≤ 9223372036854775807 then (if x4_1.size + t196.size ≤ 9223372036854775807 then (if x4_1.size + t196.size + 6 ≤ 9223372036854775807 then (stolelaw8_PageRows.l0 kj6 l0 ((x3_1 ++ (⟨#[60, 98, 114, 62]⟩ : ByteArray)) ++ t202) ((x4_1 ++ t196) ++ (⟨#[32, 101, 32, 98, 114, 10]⟩ : ByteArray)) x5_1 (wrap64 (x6_1 + 1)) (wrap64 (x7_1 + 1))) else (none)) else (none)) else (none))) else (none)) else (if (Go.bits .and .i64 (rd l0 x7_1) 3) = 2 then (if x3_1.size + 3 ≤ 9223372036854775807 then ((stoleref0_Decimal.f kj6 x7_1).bind fun t203 => (if x3_1.size + 3 + t203.size ≤ 9223372036854775807 then (if x3_1.size + 3 + t203.size + 1 ≤ 9223372036854775807 then (if x4_1.size + t196.size ≤ 9223372036854775807 then (if x4_1.size + t196.size + 4 ≤ 9223372036854775807 then ((stoleref0_Decimal.f kj6 x7_1).bind fun t204 => (if x4_1.size + t196.size + 4 + t204.size ≤ 9223372036854775807 then (if x4_1.size + t196.size + 4 + t204.size + 1 ≤ 9223372036854775807 then (stolelaw8_PageRows.l0 kj6 l0 (((x3_1 ++ (⟨#[60, 33, 99]⟩ : ByteArray)) ++ t203) ++ (⟨#[62]⟩ : ByteArray)) ((((x4_1 ++ t196) ++ (⟨#[32, 99, 32, 99]⟩ : ByteArray)) ++ t204) ++ (⟨#[10]⟩ : ByteArray)) x5_1 (wrap64 (x6_1 + 1)) (wrap64 (x7_1 + 1))) else (none)) else (none))) else (none)) else (none)) else (none)) else (none))) else (none)) else (if x3_1.size + 4 ≤ 9223372036854775807 then (if (x5_1.length : Int) > 1 then ((some (([] : List Int) : List Int)).bind fun y205 => (if (wrap64 ((x5_1.length : Int) - 1)) ≤ (x5_1.length : Int) then ((some (x5_1.take ((wrap64 ((x5_1.length : Int) - 1)) : Int).toNat : List Int)).bind fun y208 => (if y205.length + y208.length < 17592186044416 then (stolelaw8_PageRows.l0 kj6 l0 (x3_1 ++ (⟨#[60, 47, 117, 62]⟩ : ByteArray)) x4_1 (y205 ++ y208) x6_1 (wrap64 (x7_1 + 1))) else (none))) else (none))) else (stolelaw8_PageRows.l0 kj6 l0 (x3_1 ++ (⟨#[60, 47, 117, 62]⟩ : ByteArray)) x4_1 x5_1 x6_1 (wrap64 (x7_1 + 1)))) else (none))))) else (none)) else (none))) else (none)) else (none)) = some r := by rw [if_pos rfl] at H; exact H
       clear H
       have H := H1
       clear H1
       obtain ⟨ji10, hji10⟩ : ∃ j_ : Int, (wrap64 ((x5_1.length : Int) - 1)) = j_ := ⟨_, rfl⟩
       replace H : (if 0 ≤ (ji10) then (if (ji10) < (x5_1.length : Int) then ((stoleref0_Decimal.f kj6 (rd x5_1 (ji10))).bind fun t196 => (if 0 ≤ x7_1 then (if x7_1 < (l0.length : Int) then (if (Go.bits .and .i64 (rd l0 x7_1) 3) = 0 then (if x3_1.size + 6 ≤ 9223372036854775807 then ((stoleref0_Decimal.f kj6 x7_1).bind fun t198 => (if x3_1.size + 6 + t198.size ≤ 9223372036854775807 then (if x3_1.size + 6 + t198.size + 2 ≤ 9223372036854775807 then (if x4_1.size + t196.size ≤ 9223372036854775807 then (if x4_1.size + t196.size + 7 ≤ 9223372036854775807 then (if x5_1.length < 17592186044416 then (stolelaw8_PageRows.l0 kj6 l0 (((x3_1 ++ (⟨#[60, 117, 32, 107, 61, 39]⟩ : ByteArray)) ++ t198) ++ (⟨#[39, 62]⟩ : ByteArray)) ((x4_1 ++ t196) ++ (⟨#[32, 101, 32, 117, 32, 107, 10]⟩ : ByteArray)) (x5_1 ++ [wrap64 (x6_1 + 1)]) (wrap64 (x6_1 + 1)) (wrap64 (x7_1 + 1))) else (none)) else (none)) else (none)) else (none)) else (none))) else (none)) else (if (Go.bits .and .i64 (rd l0 x7_1) 3) = 1 then (if x3_1.size + 4 ≤ 9223372036854775807 then ((stoleref0_Decimal.f kj6 x7_1).bind fun t202 => (if x3_1.size + 4 + t202.size ≤ 9223372036854775807 then (if x4_1.size + t196.size ≤ 9223372036854775807 then (if x4_1.size + t196.size + 6 ≤ 9223372036854775807 then (stolelaw8_PageRows.l0 kj6 l0 ((x3_1 ++ (⟨#[60, 98, 114, 62]⟩ : ByteArray)) ++ t202) ((x4_1 ++ t196) ++ (⟨#[32, 101, 32, 98, 114, 10]⟩ : ByteArray)) x5_1 (wrap64 (x6_1 + 1)) (wrap64 (x7_1 + 1))) else (none)) else (none)) else (none))) else (none)) else (if (Go.bits .and .i64 (rd l0 x7_1) 3) = 2 then (if x3_1.size + 3 ≤ 9223372036854775807 then ((stoleref0_Decimal.f kj6 x7_1).bind fun t203 => (if x3_1.size + 3 + t203.size ≤ 9223372036854775807 then (if x3_1.size + 3 + t203.size + 1 ≤ 9223372036854775807 then (if x4_1.size + t196.size ≤ 9223372036854775807 then (if x4_1.size + t196.size + 4 ≤ 9223372036854775807 then ((stoleref0_Decimal.f kj6 x7_1).bind fun t204 => (if x4_1.size + t196.size + 4 + t204.size ≤ 9223372036854775807 then (if x4_1.size + t196.size + 4 + t204.size + 1 ≤ 9223372036854775807 then (stolelaw8_PageRows.l0 kj6 l0 (((x3_1 ++ (⟨#[60, 33, 99]⟩ : ByteArray)) ++ t203) ++ (⟨#[62]⟩ : ByteArray)) ((((x4_1 ++ t196) ++ (⟨#[32, 99, 32, 99]⟩ : ByteArray)) ++ t204) ++ (⟨#[10]⟩ : ByteArray)) x5_1 (wrap64 (x6_1 + 1)) (wrap64 (x7_1 + 1))) else (none)) else (none))) else (none)) else (none)) else (none)) else (none))) else (none)) else (if x3_1.size + 4 ≤ 9223372036854775807 then (if (x5_1.length : Int) > 1 then ((some (([] : List Int) : List Int)).bind fun y205 => (if (ji10) ≤ (x5_1.length : Int) then ((some (x5_1.take ((ji10) : Int).toNat : List Int)).bind fun y208 => (if y205.length + y208.length < 17592186044416 then (stolelaw8_PageRows.l0 kj6 l0 (x3_1 ++ (⟨#[60, 47, 117, 62]⟩ : ByteArray)) x4_1 (y205 ++ y208) x6_1 (wrap64 (x7_1 + 1))) else (none))) else (none))) else (stolelaw8_PageRows.l0 kj6 l0 (x3_1 ++ (⟨#[60, 47, 117, 62]⟩ : ByteArray)) x4_1 x5_1 x6_1 (wrap64 (x7_1 + 1)))) else (none))))) else (none)) else (none))) else (none)) else (none)) = some r := by first | (rw [hji10] at H; exact H) | (simp only [hji10] at H ⊢; exact H)
       have hji10w : (IntKind.i64.wrap ((x5_1.length : Int) - 1)) = ji10 := (i64_w _).trans hji10
       by_cases c11 : 0 ≤ (ji10)
       ·rw [if_pos c11] at H
        have c11b0 : decide (0 ≤ (ji10)) = true := decide_eq_true c11
        clear c11
        by_cases c12 : (ji10) < (x5_1.length : Int)
        ·rw [if_pos c12] at H
         have c12b0 : decide ((ji10) < (x5_1.length : Int)) = true := decide_eq_true c12
         clear c12
         replace H := Option.bind_eq_some_iff.mp H
         obtain ⟨t196, A130, H⟩ := H
         replace H : (if 0 ≤ x7_1 then (if x7_1 < (l0.length : Int) then (if (Go.bits .and .i64 (rd l0 x7_1) 3) = 0 then (if x3_1.size + 6 ≤ 9223372036854775807 then ((stoleref0_Decimal.f kj6 x7_1).bind fun t198 => (if x3_1.size + 6 + t198.size ≤ 9223372036854775807 then (if x3_1.size + 6 + t198.size + 2 ≤ 9223372036854775807 then (if x4_1.size + t196.size ≤ 9223372036854775807 then (if x4_1.size + t196.size + 7 ≤ 9223372036854775807 then (if x5_1.length < 17592186044416 then (stolelaw8_PageRows.l0 kj6 l0 (((x3_1 ++ (⟨#[60, 117, 32, 107, 61, 39]⟩ : ByteArray)) ++ t198) ++ (⟨#[39, 62]⟩ : ByteArray)) ((x4_1 ++ t196) ++ (⟨#[32, 101, 32, 117, 32, 107, 10]⟩ : ByteArray)) (x5_1 ++ [wrap64 (x6_1 + 1)]) (wrap64 (x6_1 + 1)) (wrap64 (x7_1 + 1))) else (none)) else (none)) else (none)) else (none)) else (none))) else (none)) else (if (Go.bits .and .i64 (rd l0 x7_1) 3) = 1 then (if x3_1.size + 4 ≤ 9223372036854775807 then ((stoleref0_Decimal.f kj6 x7_1).bind fun t202 => (if x3_1.size + 4 + t202.size ≤ 9223372036854775807 then (if x4_1.size + t196.size ≤ 9223372036854775807 then (if x4_1.size + t196.size + 6 ≤ 9223372036854775807 then (stolelaw8_PageRows.l0 kj6 l0 ((x3_1 ++ (⟨#[60, 98, 114, 62]⟩ : ByteArray)) ++ t202) ((x4_1 ++ t196) ++ (⟨#[32, 101, 32, 98, 114, 10]⟩ : ByteArray)) x5_1 (wrap64 (x6_1 + 1)) (wrap64 (x7_1 + 1))) else (none)) else (none)) else (none))) else (none)) else (if (Go.bits .and .i64 (rd l0 x7_1) 3) = 2 then (if x3_1.size + 3 ≤ 9223372036854775807 then ((stoleref0_Decimal.f kj6 x7_1).bind fun t203 => (if x3_1.size + 3 + t203.size ≤ 9223372036854775807 then (if x3_1.size + 3 + t203.size + 1 ≤ 9223372036854775807 then (if x4_1.size + t196.size ≤ 9223372036854775807 then (if x4_1.size + t196.size + 4 ≤ 9223372036854775807 then ((stoleref0_Decimal.f kj6 x7_1).bind fun t204 => (if x4_1.size + t196.size + 4 + t204.size ≤ 9223372036854775807 then (if x4_1.size + t196.size + 4 + t204.size + 1 ≤ 9223372036854775807 then (stolelaw8_PageRows.l0 kj6 l0 (((x3_1 ++ (⟨#[60, 33, 99]⟩ : ByteArray)) ++ t203) ++ (⟨#[62]⟩ : ByteArray)) ((((x4_1 ++ t196) ++ (⟨#[32, 99, 32, 99]⟩ : ByteArray)) ++ t204) ++ (⟨#[10]⟩ : ByteArray)) x5_1 (wrap64 (x6_1 + 1)) (wrap64 (x7_1 + 1))) else (none)) else (none))) else (none)) else (none)) else (none)) else (none))) else (none)) else (if x3_1.size + 4 ≤ 9223372036854775807 then (if (x5_1.length : Int) > 1 then ((some (([] : List Int) : List Int)).bind fun y205 => (if (ji10) ≤ (x5_1.length : Int) then ((some (x5_1.take ((ji10) : Int).toNat : List Int)).bind fun y208 => (if y205.length + y208.length < 17592186044416 then (stolelaw8_PageRows.l0 kj6 l0 (x3_1 ++ (⟨#[60, 47, 117, 62]⟩ : ByteArray)) x4_1 (y205 ++ y208) x6_1 (wrap64 (x7_1 + 1))) else (none))) else (none))) else (stolelaw8_PageRows.l0 kj6 l0 (x3_1 ++ (⟨#[60, 47, 117, 62]⟩ : ByteArray)) x4_1 x5_1 x6_1 (wrap64 (x7_1 + 1)))) else (none))))) else (none)) else (none)) = some r := H
         have A13 := Aside0.mk A130
         clear A130
         by_cases c14 : 0 ≤ x7_1
         ·rw [if_pos c14] at H
          have c14b0 : decide (0 ≤ x7_1) = true := decide_eq_true c14
          clear c14
          by_cases c15 : x7_1 < (l0.length : Int)
          ·rw [if_pos c15] at H
           have c15b0 : decide (x7_1 < (l0.length : Int)) = true := decide_eq_true c15
           clear c15
           by_cases c16 : (Go.bits .and .i64 (rd l0 x7_1) 3) = 0
           ·rw [if_pos c16] at H
            have c16b0 : ((Go.bits .and .i64 (rd l0 x7_1) 3) == 0) = true := beq_iff_eq.mpr c16
            have c16b1 : ((Go.bits .and .i64 (rd l0 x7_1) 3) != 0) = false := bne_eq_false_iff_eq.mpr c16
            clear c16
            by_cases c17 : x3_1.size + 6 ≤ 9223372036854775807
            ·rw [if_pos c17] at H
             have c17b0 := eq_true c17
             have c17b1 : decide (x3_1.size + 6 ≤ 9223372036854775807) = true := decide_eq_true c17
             try have c17b2 : (9223372036854775807 < x3_1.size + 6) = False := eq_false (Nat.not_lt.2 c17)
             replace H := Option.bind_eq_some_iff.mp H
             obtain ⟨t198, A180, H⟩ := H
             replace H : (if x3_1.size + 6 + t198.size ≤ 9223372036854775807 then (if x3_1.size + 6 + t198.size + 2 ≤ 9223372036854775807 then (if x4_1.size + t196.size ≤ 9223372036854775807 then (if x4_1.size + t196.size + 7 ≤ 9223372036854775807 then (if x5_1.length < 17592186044416 then (stolelaw8_PageRows.l0 kj6 l0 (((x3_1 ++ (⟨#[60, 117, 32, 107, 61, 39]⟩ : ByteArray)) ++ t198) ++ (⟨#[39, 62]⟩ : ByteArray)) ((x4_1 ++ t196) ++ (⟨#[32, 101, 32, 117, 32, 107, 10]⟩ : ByteArray)) (x5_1 ++ [wrap64 (x6_1 + 1)]) (wrap64 (x6_1 + 1)) (wrap64 (x7_1 + 1))) else (none)) else (none)) else (none)) else (none)) else (none)) = some r := H
             have A18 := Aside0.mk A180
             clear A180
             by_cases c19 : x3_1.size + 6 + t198.size ≤ 9223372036854775807
             ·rw [if_pos c19] at H
              have c19b0 := eq_true c19
              have c19b1 : decide (x3_1.size + 6 + t198.size ≤ 9223372036854775807) = true := decide_eq_true c19
              try have c19b2 : (9223372036854775807 < x3_1.size + 6 + t198.size) = False := eq_false (Nat.not_lt.2 c19)
              by_cases c20 : x3_1.size + 6 + t198.size + 2 ≤ 9223372036854775807
              ·rw [if_pos c20] at H
               have c20b0 := eq_true c20
               have c20b1 : decide (x3_1.size + 6 + t198.size + 2 ≤ 9223372036854775807) = true := decide_eq_true c20
               try have c20b2 : (9223372036854775807 < x3_1.size + 6 + t198.size + 2) = False := eq_false (Nat.not_lt.2 c20)
               by_cases c21 : x4_1.size + t196.size ≤ 9223372036854775807
               ·rw [if_pos c21] at H
                have c21b0 := eq_true c21
                have c21b1 : decide (x4_1.size + t196.size ≤ 9223372036854775807) = true := decide_eq_true c21
                try have c21b2 : (9223372036854775807 < x4_1.size + t196.size) = False := eq_false (Nat.not_lt.2 c21)
                by_cases c22 : x4_1.size + t196.size + 7 ≤ 9223372036854775807
                ·rw [if_pos c22] at H
                 have c22b0 := eq_true c22
                 have c22b1 : decide (x4_1.size + t196.size + 7 ≤ 9223372036854775807) = true := decide_eq_true c22
                 try have c22b2 : (9223372036854775807 < x4_1.size + t196.size + 7) = False := eq_false (Nat.not_lt.2 c22)
                 by_cases c23 : x5_1.length < 17592186044416
                 ·rw [if_pos c23] at H
                  have LMc23 := Aside0.mk c23
                  clear c23
                  obtain ⟨y199, hy199⟩ : ∃ y_ : List Int, y_ = (x5_1 ++ [wrap64 (x6_1 + 1)]) := ⟨_, rfl⟩
                  replace H : (stolelaw8_PageRows.l0 kj6 l0 (((x3_1 ++ (⟨#[60, 117, 32, 107, 61, 39]⟩ : ByteArray)) ++ t198) ++ (⟨#[39, 62]⟩ : ByteArray)) ((x4_1 ++ t196) ++ (⟨#[32, 101, 32, 117, 32, 107, 10]⟩ : ByteArray)) y199 (wrap64 (x6_1 + 1)) (wrap64 (x7_1 + 1))) = some r := by first | (rw [hy199]; with_reducible exact H) | (have H2_ := (Option.bind_some _ _).symm.trans H; rw [hy199]; with_reducible exact H2_) | (have H2_ := (Option.bind_some _ _).symm.trans H; with_reducible exact H2_) | with_reducible exact H | (rw [hy199]; exact H) | exact H
                  have Ny199 := Aside0.mk hy199
                  clear hy199
                  have H' := Aside0.mk H
                  clear H
                  obtain ⟨Ao24, co24, eo24⟩ := Kd.R_slice HO_5.out
                  subst eo24
                  have p195 : 0 ≤ ((ji10) : Int) := of_decide_eq_true (by first | (with_reducible assumption) | assumption)
                  have q195 : (ji10) < (x5_1.length : Int) := of_decide_eq_true (by first | (with_reducible assumption) | assumption)
                  obtain ⟨ad195, e195, hx195_0⟩ := Kd.at_int (Kd.R_reads' HO_5.out).2.2 (ji10) p195 q195
                  cases e195
                  replace p195 := eq_true p195
                  replace q195 := eq_true q195
                  go_wp2_with (first | ((with_reducible refine gate_callee (f := 24) rfl ?_); refine goesL_ (some 32) rfl rfl Tryz.func24 (by kernel_rfl) rfl #[.int .i64 (rd x5_1 (ji10))] rfl (by (try simp only [List.map_toArray, List.map_cons, List.map_nil]); first | done | (simp only [hji10]; rfl) | rfl | (simp only [List.length_drop, List.length_take]; rfl)) ?_; (with_reducible refine (stoleref0_Decimal.calls kj6 (rd x5_1 (ji10)) t196 _ A13.out).mono ?_); rintro e w25 ⟨rfl, hb⟩; refine ⟨_, rfl, ?_⟩; have n0_ := Aside0.mk (Kd.R_below (by (with_reducible repeat (first | apply Kd.R_alloc | apply Kd.R_drewN | apply Kd.R_drew)); exact HO_5.out) hb); have n1_ := Aside0.mk (below_step (by repeat (first | (with_reducible first | exact HB.out | apply below_alloc | apply pw_below_drewN | apply below_drew1) | exact HB.out)) hb); clear HO_5; clear HB; have HO_5 := n0_; have HB := n1_; clear n0_ n1_; (try clear hb); (try clear hb2); (try clear hk); (try clear hi); have p197 : 0 ≤ (x7_1 : Int) := of_decide_eq_true (by first | (with_reducible assumption) | assumption); have q197 : x7_1 < (l0.length : Int) := of_decide_eq_true (by first | (with_reducible assumption) | assumption); obtain ⟨ad197, e197, hx197_0⟩ := Kd.at_int HR0.out x7_1 p197 q197; cases e197; replace hx197_0 := (HB.out.cell (World.block_lt_of_cell? w _ hx197_0)).trans hx197_0; replace p197 := eq_true p197; replace q197 := eq_true q197) | ((with_reducible refine gate_callee (f := 24) rfl ?_); refine goesL_ (some 57) rfl rfl Tryz.func24 (by kernel_rfl) rfl #[.int .i64 x7_1] rfl (by (try simp only [List.map_toArray, List.map_cons, List.map_nil]); first | done | rfl | (simp only [List.length_drop, List.length_take]; rfl)) ?_; (with_reducible refine (stoleref0_Decimal.calls kj6 x7_1 t198 _ A18.out).mono ?_); rintro e w26 ⟨rfl, hb⟩; refine ⟨_, rfl, ?_⟩; have n0_ := Aside0.mk (Kd.R_below (by (with_reducible repeat (first | apply Kd.R_alloc | apply Kd.R_drewN | apply Kd.R_drew)); exact HO_5.out) hb); have n1_ := Aside0.mk (below_step (by repeat (first | (with_reducible first | exact HB.out | apply below_alloc | apply pw_below_drewN | apply below_drew1) | exact HB.out)) hb); clear HO_5; clear HB; have HO_5 := n0_; have HB := n1_; clear n0_ n1_; (try clear hb); (try clear hb2); (try clear hk); (try clear hi)) | ((with_reducible refine gate_builtin (b := .append) (xs := #[.tmp 64, .tmp 66]) rfl ?_); at_builtin; refine Kd.R_append (Kd.int .i64) (w0 := w) w.heap.size rfl (.tmp 64) (.tmp 66) 33 3 (.int .i64 0) 8 rfl Tryz.underlying33 info3 rfl (by decide) (by omega) (.slice (some ad195) x5_1.length co24) x5_1 (wrap64 (x6_1 + 1)) [.int .i64 (wrap64 (x6_1 + 1))] (fun _ => True) (fun _ => False) rfl rfl ?aP (fun _ hk => hk.elim) ?aF ?aO ?aB ?aS ?aL ?_; (case aP => exact rfl); (case aB => exact (by repeat (first | (with_reducible first | exact HB.out | apply below_alloc | apply pw_below_drewN | apply below_drew1) | exact HB.out))); (case aF => exact (fun _ _ => trivial)); (case aO => exact (by (with_reducible repeat (first | apply Kd.R_alloc | apply Kd.R_drewN | apply Kd.R_drew)); exact HO_5.out)); (case aS => exact (below_size (by repeat (first | (with_reducible first | exact HB.out | apply below_alloc | apply pw_below_drewN | apply below_drew1) | exact HB.out)))); (case aL => have := LMc23.out; first | omega | exact Nat.le_of_lt this); intro v200 w27 ho hb hg hat; rw [← Ny199.out] at ho; have n0_ := Aside0.mk (hb); have n1_ := Aside0.mk (ho); clear HB; clear HO_5; have HB := n0_; have HO201 := n1_; clear n0_ n1_; clear ho hb hg hat))
                  go_roundg kj6
                  case measure => have := HK1.out; have := HJ6.out; omega
                  case rel => exact ⟨(((x3_1 ++ (⟨#[60, 117, 32, 107, 61, 39]⟩ : ByteArray)) ++ t198) ++ (⟨#[39, 62]⟩ : ByteArray)), ((x4_1 ++ t196) ++ (⟨#[32, 101, 32, 117, 32, 107, 10]⟩ : ByteArray)), (y199), (wrap64 (x6_1 + 1)), (wrap64 (x7_1 + 1)), (by first | rfl | (simp; done) | (simp [*]; done)), (by first | rfl | (simp; done) | (simp [*]; done)), (by first | rfl | (simp; done) | (simp [*]; done)), (by first | rfl | (simp; done) | (simp [*]; done)), H', ⟨by have := HK1.out; have := HJ6.out; omega⟩, ⟨by (with_reducible repeat (first | apply Kd.R_alloc | apply Kd.R_drewN | apply Kd.R_drew)); exact HO201.out⟩, ⟨by repeat (first | (with_reducible first | exact HB.out | apply below_alloc | apply pw_below_drewN | apply below_drew1) | exact HB.out)⟩⟩
                 ·rw [if_neg c23] at H
                  exact absurd H (by simp)
                ·rw [if_neg c22] at H
                 exact absurd H (by simp)
               ·rw [if_neg c21] at H
                exact absurd H (by simp)
              ·rw [if_neg c20] at H
               exact absurd H (by simp)
             ·rw [if_neg c19] at H
              exact absurd H (by simp)
            ·rw [if_neg c17] at H
             exact absurd H (by simp)
           ·rw [if_neg c16] at H
            have c16b0 : ((Go.bits .and .i64 (rd l0 x7_1) 3) == 0) = false := beq_eq_false_iff_ne.mpr c16
            have c16b1 : ((Go.bits .and .i64 (rd l0 x7_1) 3) != 0) = true := bne_iff_ne.mpr c16
            by_cases c28 : (Go.bits .and .i64 (rd l0 x7_1) 3) = 1
            ·rw [if_pos c28] at H
             have c28b0 : ((Go.bits .and .i64 (rd l0 x7_1) 3) == 1) = true := beq_iff_eq.mpr c28
             have c28b1 : ((Go.bits .and .i64 (rd l0 x7_1) 3) != 1) = false := bne_eq_false_iff_eq.mpr c28
             clear c28
             by_cases c29 : x3_1.size + 4 ≤ 9223372036854775807
             ·rw [if_pos c29] at H
              have c29b0 := eq_true c29
              have c29b1 : decide (x3_1.size + 4 ≤ 9223372036854775807) = true := decide_eq_true c29
              try have c29b2 : (9223372036854775807 < x3_1.size + 4) = False := eq_false (Nat.not_lt.2 c29)
              replace H := Option.bind_eq_some_iff.mp H
              obtain ⟨t202, A300, H⟩ := H
              replace H : (if x3_1.size + 4 + t202.size ≤ 9223372036854775807 then (if x4_1.size + t196.size ≤ 9223372036854775807 then (if x4_1.size + t196.size + 6 ≤ 9223372036854775807 then (stolelaw8_PageRows.l0 kj6 l0 ((x3_1 ++ (⟨#[60, 98, 114, 62]⟩ : ByteArray)) ++ t202) ((x4_1 ++ t196) ++ (⟨#[32, 101, 32, 98, 114, 10]⟩ : ByteArray)) x5_1 (wrap64 (x6_1 + 1)) (wrap64 (x7_1 + 1))) else (none)) else (none)) else (none)) = some r := H
              have A30 := Aside0.mk A300
              clear A300
              by_cases c31 : x3_1.size + 4 + t202.size ≤ 9223372036854775807
              ·rw [if_pos c31] at H
               have c31b0 := eq_true c31
               have c31b1 : decide (x3_1.size + 4 + t202.size ≤ 9223372036854775807) = true := decide_eq_true c31
               try have c31b2 : (9223372036854775807 < x3_1.size + 4 + t202.size) = False := eq_false (Nat.not_lt.2 c31)
               by_cases c32 : x4_1.size + t196.size ≤ 9223372036854775807
               ·rw [if_pos c32] at H
                have c32b0 := eq_true c32
                have c32b1 : decide (x4_1.size + t196.size ≤ 9223372036854775807) = true := decide_eq_true c32
                try have c32b2 : (9223372036854775807 < x4_1.size + t196.size) = False := eq_false (Nat.not_lt.2 c32)
                by_cases c33 : x4_1.size + t196.size + 6 ≤ 9223372036854775807
                ·rw [if_pos c33] at H
                 have c33b0 := eq_true c33
                 have c33b1 : decide (x4_1.size + t196.size + 6 ≤ 9223372036854775807) = true := decide_eq_true c33
                 try have c33b2 : (9223372036854775807 < x4_1.size + t196.size + 6) = False := eq_false (Nat.not_lt.2 c33)
                 have H' := Aside0.mk H
                 clear H
                 obtain ⟨Ao34, co34, eo34⟩ := Kd.R_slice HO_5.out
                 subst eo34
                 have p195 : 0 ≤ ((ji10) : Int) := of_decide_eq_true (by first | (with_reducible assumption) | assumption)
                 have q195 : (ji10) < (x5_1.length : Int) := of_decide_eq_true (by first | (with_reducible assumption) | assumption)
                 obtain ⟨ad195, e195, hx195_0⟩ := Kd.at_int (Kd.R_reads' HO_5.out).2.2 (ji10) p195 q195
                 cases e195
                 replace p195 := eq_true p195
                 replace q195 := eq_true q195
                 go_wp2_with (first | ((with_reducible refine gate_callee (f := 24) rfl ?_); refine goesL_ (some 32) rfl rfl Tryz.func24 (by kernel_rfl) rfl #[.int .i64 (rd x5_1 (ji10))] rfl (by (try simp only [List.map_toArray, List.map_cons, List.map_nil]); first | done | (simp only [hji10]; rfl) | rfl | (simp only [List.length_drop, List.length_take]; rfl)) ?_; (with_reducible refine (stoleref0_Decimal.calls kj6 (rd x5_1 (ji10)) t196 _ A13.out).mono ?_); rintro e w35 ⟨rfl, hb⟩; refine ⟨_, rfl, ?_⟩; have n0_ := Aside0.mk (Kd.R_below (by (with_reducible repeat (first | apply Kd.R_alloc | apply Kd.R_drewN | apply Kd.R_drew)); exact HO_5.out) hb); have n1_ := Aside0.mk (below_step (by repeat (first | (with_reducible first | exact HB.out | apply below_alloc | apply pw_below_drewN | apply below_drew1) | exact HB.out)) hb); clear HO_5; clear HB; have HO_5 := n0_; have HB := n1_; clear n0_ n1_; (try clear hb); (try clear hb2); (try clear hk); (try clear hi); have p197 : 0 ≤ (x7_1 : Int) := of_decide_eq_true (by first | (with_reducible assumption) | assumption); have q197 : x7_1 < (l0.length : Int) := of_decide_eq_true (by first | (with_reducible assumption) | assumption); obtain ⟨ad197, e197, hx197_0⟩ := Kd.at_int HR0.out x7_1 p197 q197; cases e197; replace hx197_0 := (HB.out.cell (World.block_lt_of_cell? w _ hx197_0)).trans hx197_0; replace p197 := eq_true p197; replace q197 := eq_true q197) | ((with_reducible refine gate_callee (f := 24) rfl ?_); refine goesL_ (some 75) rfl rfl Tryz.func24 (by kernel_rfl) rfl #[.int .i64 x7_1] rfl (by (try simp only [List.map_toArray, List.map_cons, List.map_nil]); first | done | rfl | (simp only [List.length_drop, List.length_take]; rfl)) ?_; (with_reducible refine (stoleref0_Decimal.calls kj6 x7_1 t202 _ A30.out).mono ?_); rintro e w36 ⟨rfl, hb⟩; refine ⟨_, rfl, ?_⟩; have n0_ := Aside0.mk (Kd.R_below (by (with_reducible repeat (first | apply Kd.R_alloc | apply Kd.R_drewN | apply Kd.R_drew)); exact HO_5.out) hb); have n1_ := Aside0.mk (below_step (by repeat (first | (with_reducible first | exact HB.out | apply below_alloc | apply pw_below_drewN | apply below_drew1) | exact HB.out)) hb); clear HO_5; clear HB; have HO_5 := n0_; have HB := n1_; clear n0_ n1_; (try clear hb); (try clear hb2); (try clear hk); (try clear hi)))
                 go_roundg kj6
                 case measure => have := HK1.out; have := HJ6.out; omega
                 case rel => exact ⟨((x3_1 ++ (⟨#[60, 98, 114, 62]⟩ : ByteArray)) ++ t202), ((x4_1 ++ t196) ++ (⟨#[32, 101, 32, 98, 114, 10]⟩ : ByteArray)), (x5_1), (wrap64 (x6_1 + 1)), (wrap64 (x7_1 + 1)), (by first | rfl | (simp; done) | (simp [*]; done)), (by first | rfl | (simp; done) | (simp [*]; done)), (by first | rfl | (simp; done) | (simp [*]; done)), (by first | rfl | (simp; done) | (simp [*]; done)), H', ⟨by have := HK1.out; have := HJ6.out; omega⟩, ⟨by (with_reducible repeat (first | apply Kd.R_alloc | apply Kd.R_drewN | apply Kd.R_drew)); exact HO_5.out⟩, ⟨by repeat (first | (with_reducible first | exact HB.out | apply below_alloc | apply pw_below_drewN | apply below_drew1) | exact HB.out)⟩⟩
                ·rw [if_neg c33] at H
                 exact absurd H (by simp)
               ·rw [if_neg c32] at H
                exact absurd H (by simp)
              ·rw [if_neg c31] at H
               exact absurd H (by simp)
             ·rw [if_neg c29] at H
              exact absurd H (by simp)
            ·rw [if_neg c28] at H
             have c28b0 : ((Go.bits .and .i64 (rd l0 x7_1) 3) == 1) = false := beq_eq_false_iff_ne.mpr c28
             have c28b1 : ((Go.bits .and .i64 (rd l0 x7_1) 3) != 1) = true := bne_iff_ne.mpr c28
             by_cases c37 : (Go.bits .and .i64 (rd l0 x7_1) 3) = 2
             ·rw [if_pos c37] at H
              have c37b0 : ((Go.bits .and .i64 (rd l0 x7_1) 3) == 2) = true := beq_iff_eq.mpr c37
              have c37b1 : ((Go.bits .and .i64 (rd l0 x7_1) 3) != 2) = false := bne_eq_false_iff_eq.mpr c37
              clear c37
              by_cases c38 : x3_1.size + 3 ≤ 9223372036854775807
              ·rw [if_pos c38] at H
               have c38b0 := eq_true c38
               have c38b1 : decide (x3_1.size + 3 ≤ 9223372036854775807) = true := decide_eq_true c38
               try have c38b2 : (9223372036854775807 < x3_1.size + 3) = False := eq_false (Nat.not_lt.2 c38)
               replace H := Option.bind_eq_some_iff.mp H
               obtain ⟨t203, A390, H⟩ := H
               replace H : (if x3_1.size + 3 + t203.size ≤ 9223372036854775807 then (if x3_1.size + 3 + t203.size + 1 ≤ 9223372036854775807 then (if x4_1.size + t196.size ≤ 9223372036854775807 then (if x4_1.size + t196.size + 4 ≤ 9223372036854775807 then ((stoleref0_Decimal.f kj6 x7_1).bind fun t204 => (if x4_1.size + t196.size + 4 + t204.size ≤ 9223372036854775807 then (if x4_1.size + t196.size + 4 + t204.size + 1 ≤ 9223372036854775807 then (stolelaw8_PageRows.l0 kj6 l0 (((x3_1 ++ (⟨#[60, 33, 99]⟩ : ByteArray)) ++ t203) ++ (⟨#[62]⟩ : ByteArray)) ((((x4_1 ++ t196) ++ (⟨#[32, 99, 32, 99]⟩ : ByteArray)) ++ t204) ++ (⟨#[10]⟩ : ByteArray)) x5_1 (wrap64 (x6_1 + 1)) (wrap64 (x7_1 + 1))) else (none)) else (none))) else (none)) else (none)) else (none)) else (none)) = some r := H
               have A39 := Aside0.mk A390
               clear A390
               by_cases c40 : x3_1.size + 3 + t203.size ≤ 9223372036854775807
               ·rw [if_pos c40] at H
                have c40b0 := eq_true c40
                have c40b1 : decide (x3_1.size + 3 + t203.size ≤ 9223372036854775807) = true := decide_eq_true c40
                try have c40b2 : (9223372036854775807 < x3_1.size + 3 + t203.size) = False := eq_false (Nat.not_lt.2 c40)
                by_cases c41 : x3_1.size + 3 + t203.size + 1 ≤ 9223372036854775807
                ·rw [if_pos c41] at H
                 have c41b0 := eq_true c41
                 have c41b1 : decide (x3_1.size + 3 + t203.size + 1 ≤ 9223372036854775807) = true := decide_eq_true c41
                 try have c41b2 : (9223372036854775807 < x3_1.size + 3 + t203.size + 1) = False := eq_false (Nat.not_lt.2 c41)
                 by_cases c42 : x4_1.size + t196.size ≤ 9223372036854775807
                 ·rw [if_pos c42] at H
                  have c42b0 := eq_true c42
                  have c42b1 : decide (x4_1.size + t196.size ≤ 9223372036854775807) = true := decide_eq_true c42
                  try have c42b2 : (9223372036854775807 < x4_1.size + t196.size) = False := eq_false (Nat.not_lt.2 c42)
                  by_cases c43 : x4_1.size + t196.size + 4 ≤ 9223372036854775807
                  ·rw [if_pos c43] at H
                   have c43b0 := eq_true c43
                   have c43b1 : decide (x4_1.size + t196.size + 4 ≤ 9223372036854775807) = true := decide_eq_true c43
                   try have c43b2 : (9223372036854775807 < x4_1.size + t196.size + 4) = False := eq_false (Nat.not_lt.2 c43)
                   replace H := Option.bind_eq_some_iff.mp H
                   obtain ⟨t204, A440, H⟩ := H
                   replace H : (if x4_1.size + t196.size + 4 + t204.size ≤ 9223372036854775807 then (if x4_1.size + t196.size + 4 + t204.size + 1 ≤ 9223372036854775807 then (stolelaw8_PageRows.l0 kj6 l0 (((x3_1 ++ (⟨#[60, 33, 99]⟩ : ByteArray)) ++ t203) ++ (⟨#[62]⟩ : ByteArray)) ((((x4_1 ++ t196) ++ (⟨#[32, 99, 32, 99]⟩ : ByteArray)) ++ t204) ++ (⟨#[10]⟩ : ByteArray)) x5_1 (wrap64 (x6_1 + 1)) (wrap64 (x7_1 + 1))) else (none)) else (none)) = some r := H
                   have A44 := Aside0.mk A440
                   clear A440
                   by_cases c45 : x4_1.size + t196.size + 4 + t204.size ≤ 9223372036854775807
                   ·rw [if_pos c45] at H
                    have c45b0 := eq_true c45
                    have c45b1 : decide (x4_1.size + t196.size + 4 + t204.size ≤ 9223372036854775807) = true := decide_eq_true c45
                    try have c45b2 : (9223372036854775807 < x4_1.size + t196.size + 4 + t204.size) = False := eq_false (Nat.not_lt.2 c45)
                    by_cases c46 : x4_1.size + t196.size + 4 + t204.size + 1 ≤ 9223372036854775807
                    ·rw [if_pos c46] at H
                     have c46b0 := eq_true c46
                     have c46b1 : decide (x4_1.size + t196.size + 4 + t204.size + 1 ≤ 9223372036854775807) = true := decide_eq_true c46
                     try have c46b2 : (9223372036854775807 < x4_1.size + t196.size + 4 + t204.size + 1) = False := eq_false (Nat.not_lt.2 c46)
                     have H' := Aside0.mk H
                     clear H
                     obtain ⟨Ao47, co47, eo47⟩ := Kd.R_slice HO_5.out
                     subst eo47
                     have p195 : 0 ≤ ((ji10) : Int) := of_decide_eq_true (by first | (with_reducible assumption) | assumption)
                     have q195 : (ji10) < (x5_1.length : Int) := of_decide_eq_true (by first | (with_reducible assumption) | assumption)
                     obtain ⟨ad195, e195, hx195_0⟩ := Kd.at_int (Kd.R_reads' HO_5.out).2.2 (ji10) p195 q195
                     cases e195
                     replace p195 := eq_true p195
                     replace q195 := eq_true q195
                     go_wp2_with (first | ((with_reducible refine gate_callee (f := 24) rfl ?_); refine goesL_ (some 32) rfl rfl Tryz.func24 (by kernel_rfl) rfl #[.int .i64 (rd x5_1 (ji10))] rfl (by (try simp only [List.map_toArray, List.map_cons, List.map_nil]); first | done | (simp only [hji10]; rfl) | rfl | (simp only [List.length_drop, List.length_take]; rfl)) ?_; (with_reducible refine (stoleref0_Decimal.calls kj6 (rd x5_1 (ji10)) t196 _ A13.out).mono ?_); rintro e w48 ⟨rfl, hb⟩; refine ⟨_, rfl, ?_⟩; have n0_ := Aside0.mk (Kd.R_below (by (with_reducible repeat (first | apply Kd.R_alloc | apply Kd.R_drewN | apply Kd.R_drew)); exact HO_5.out) hb); have n1_ := Aside0.mk (below_step (by repeat (first | (with_reducible first | exact HB.out | apply below_alloc | apply pw_below_drewN | apply below_drew1) | exact HB.out)) hb); clear HO_5; clear HB; have HO_5 := n0_; have HB := n1_; clear n0_ n1_; (try clear hb); (try clear hb2); (try clear hk); (try clear hi); have p197 : 0 ≤ (x7_1 : Int) := of_decide_eq_true (by first | (with_reducible assumption) | assumption); have q197 : x7_1 < (l0.length : Int) := of_decide_eq_true (by first | (with_reducible assumption) | assumption); obtain ⟨ad197, e197, hx197_0⟩ := Kd.at_int HR0.out x7_1 p197 q197; cases e197; replace hx197_0 := (HB.out.cell (World.block_lt_of_cell? w _ hx197_0)).trans hx197_0; replace p197 := eq_true p197; replace q197 := eq_true q197) | ((with_reducible refine gate_callee (f := 24) rfl ?_); refine goesL_ (some 88) rfl rfl Tryz.func24 (by kernel_rfl) rfl #[.int .i64 x7_1] rfl (by (try simp only [List.map_toArray, List.map_cons, List.map_nil]); first | done | rfl | (simp only [List.length_drop, List.length_take]; rfl)) ?_; (with_reducible refine (stoleref0_Decimal.calls kj6 x7_1 t203 _ A39.out).mono ?_); rintro e w49 ⟨rfl, hb⟩; refine ⟨_, rfl, ?_⟩; have n0_ := Aside0.mk (Kd.R_below (by (with_reducible repeat (first | apply Kd.R_alloc | apply Kd.R_drewN | apply Kd.R_drew)); exact HO_5.out) hb); have n1_ := Aside0.mk (below_step (by repeat (first | (with_reducible first | exact HB.out | apply below_alloc | apply pw_below_drewN | apply below_drew1) | exact HB.out)) hb); clear HO_5; clear HB; have HO_5 := n0_; have HB := n1_; clear n0_ n1_; (try clear hb); (try clear hb2); (try clear hk); (try clear hi)) | ((with_reducible refine gate_callee (f := 24) rfl ?_); refine goesL_ (some 96) rfl rfl Tryz.func24 (by kernel_rfl) rfl #[.int .i64 x7_1] rfl (by (try simp only [List.map_toArray, List.map_cons, List.map_nil]); first | done | rfl | (simp only [List.length_drop, List.length_take]; rfl)) ?_; (with_reducible refine (stoleref0_Decimal.calls kj6 x7_1 t204 _ A44.out).mono ?_); rintro e w50 ⟨rfl, hb⟩; refine ⟨_, rfl, ?_⟩; have n0_ := Aside0.mk (Kd.R_below (by (with_reducible repeat (first | apply Kd.R_alloc | apply Kd.R_drewN | apply Kd.R_drew)); exact HO_5.out) hb); have n1_ := Aside0.mk (below_step (by repeat (first | (with_reducible first | exact HB.out | apply below_alloc | apply pw_below_drewN | apply below_drew1) | exact HB.out)) hb); clear HO_5; clear HB; have HO_5 := n0_; have HB := n1_; clear n0_ n1_; (try clear hb); (try clear hb2); (try clear hk); (try clear hi)))
                     go_roundg kj6
                     case measure => have := HK1.out; have := HJ6.out; omega
                     case rel => exact ⟨(((x3_1 ++ (⟨#[60, 33, 99]⟩ : ByteArray)) ++ t203) ++ (⟨#[62]⟩ : ByteArray)), ((((x4_1 ++ t196) ++ (⟨#[32, 99, 32, 99]⟩ : ByteArray)) ++ t204) ++ (⟨#[10]⟩ : ByteArray)), (x5_1), (wrap64 (x6_1 + 1)), (wrap64 (x7_1 + 1)), (by first | rfl | (simp; done) | (simp [*]; done)), (by first | rfl | (simp; done) | (simp [*]; done)), (by first | rfl | (simp; done) | (simp [*]; done)), (by first | rfl | (simp; done) | (simp [*]; done)), H', ⟨by have := HK1.out; have := HJ6.out; omega⟩, ⟨by (with_reducible repeat (first | apply Kd.R_alloc | apply Kd.R_drewN | apply Kd.R_drew)); exact HO_5.out⟩, ⟨by repeat (first | (with_reducible first | exact HB.out | apply below_alloc | apply pw_below_drewN | apply below_drew1) | exact HB.out)⟩⟩
                    ·rw [if_neg c46] at H
                     exact absurd H (by simp)
                   ·rw [if_neg c45] at H
                    exact absurd H (by simp)
                  ·rw [if_neg c43] at H
                   exact absurd H (by simp)
                 ·rw [if_neg c42] at H
                  exact absurd H (by simp)
                ·rw [if_neg c41] at H
                 exact absurd H (by simp)
               ·rw [if_neg c40] at H
                exact absurd H (by simp)
              ·rw [if_neg c38] at H
               exact absurd H (by simp)
             ·rw [if_neg c37] at H
              have c37b0 : ((Go.bits .and .i64 (rd l0 x7_1) 3) == 2) = false := beq_eq_false_iff_ne.mpr c37
              have c37b1 : ((Go.bits .and .i64 (rd l0 x7_1) 3) != 2) = true := bne_iff_ne.mpr c37
              by_cases c51 : x3_1.size + 4 ≤ 9223372036854775807
              ·rw [if_pos c51] at H
               have c51b0 := eq_true c51
               have c51b1 : decide (x3_1.size + 4 ≤ 9223372036854775807) = true := decide_eq_true c51
               try have c51b2 : (9223372036854775807 < x3_1.size + 4) = False := eq_false (Nat.not_lt.2 c51)
               by_cases c52 : (x5_1.length : Int) > 1
               ·rw [if_pos c52] at H
                have c52b0 : decide (1 < (x5_1.length : Int)) = true := decide_eq_true c52
                have c52b1 : decide (1 < x5_1.length) = true := decide_eq_true (by omega)
                clear c52
                obtain ⟨y205, hy205⟩ : ∃ y_ : List Int, y_ = (([] : List Int)) := ⟨_, rfl⟩
                replace H : (if (ji10) ≤ (x5_1.length : Int) then ((some (x5_1.take ((ji10) : Int).toNat : List Int)).bind fun y208 => (if y205.length + y208.length < 17592186044416 then (stolelaw8_PageRows.l0 kj6 l0 (x3_1 ++ (⟨#[60, 47, 117, 62]⟩ : ByteArray)) x4_1 (y205 ++ y208) x6_1 (wrap64 (x7_1 + 1))) else (none))) else (none)) = some r := by first | (rw [hy205]; with_reducible exact H) | (have H2_ := (Option.bind_some _ _).symm.trans H; rw [hy205]; with_reducible exact H2_) | (have H2_ := (Option.bind_some _ _).symm.trans H; with_reducible exact H2_) | with_reducible exact H | (rw [hy205]; exact H) | exact H
                have Ny205 := Aside0.mk hy205
                clear hy205
                have c53b0 := eq_true (of_decide_eq_true (by first | (with_reducible assumption) | assumption) : 0 ≤ (ji10))
                by_cases c54 : (ji10) ≤ (x5_1.length : Int)
                ·rw [if_pos c54] at H
                 have c54b0 := eq_true c54
                 have c54b1 : decide ((ji10) ≤ (x5_1.length : Int)) = true := decide_eq_true c54
                 clear c54
                 obtain ⟨y208, hy208⟩ : ∃ y_ : List Int, y_ = (x5_1.take ((ji10) : Int).toNat) := ⟨_, rfl⟩
                 replace H : (if y205.length + y208.length < 17592186044416 then (stolelaw8_PageRows.l0 kj6 l0 (x3_1 ++ (⟨#[60, 47, 117, 62]⟩ : ByteArray)) x4_1 (y205 ++ y208) x6_1 (wrap64 (x7_1 + 1))) else (none)) = some r := by first | (rw [hy208]; with_reducible exact H) | (have H2_ := (Option.bind_some _ _).symm.trans H; rw [hy208]; with_reducible exact H2_) | (have H2_ := (Option.bind_some _ _).symm.trans H; with_reducible exact H2_) | with_reducible exact H | (rw [hy208]; exact H) | exact H
                 have Ny208 := Aside0.mk hy208
                 clear hy208
                 by_cases c55 : y205.length + y208.length < 17592186044416
                 ·rw [if_pos c55] at H
                  have LMc55 := Aside0.mk c55
                  clear c55
                  obtain ⟨y212, hy212⟩ : ∃ y_ : List Int, y_ = (y205 ++ y208) := ⟨_, rfl⟩
                  replace H : (stolelaw8_PageRows.l0 kj6 l0 (x3_1 ++ (⟨#[60, 47, 117, 62]⟩ : ByteArray)) x4_1 y212 x6_1 (wrap64 (x7_1 + 1))) = some r := by first | (rw [hy212]; with_reducible exact H) | (have H2_ := (Option.bind_some _ _).symm.trans H; rw [hy212]; with_reducible exact H2_) | (have H2_ := (Option.bind_some _ _).symm.trans H; with_reducible exact H2_) | with_reducible exact H | (rw [hy212]; exact H) | exact H
                  have Ny212 := Aside0.mk hy212
                  clear hy212
                  have H' := Aside0.mk H
                  clear H
                  obtain ⟨Ao56, co56, eo56⟩ := Kd.R_slice HO_5.out
                  subst eo56
                  have p195 : 0 ≤ ((ji10) : Int) := of_decide_eq_true (by first | (with_reducible assumption) | assumption)
                  have q195 : (ji10) < (x5_1.length : Int) := of_decide_eq_true (by first | (with_reducible assumption) | assumption)
                  obtain ⟨ad195, e195, hx195_0⟩ := Kd.at_int (Kd.R_reads' HO_5.out).2.2 (ji10) p195 q195
                  cases e195
                  replace p195 := eq_true p195
                  replace q195 := eq_true q195
                  go_wp2_with (first | ((with_reducible refine gate_callee (f := 24) rfl ?_); refine goesL_ (some 32) rfl rfl Tryz.func24 (by kernel_rfl) rfl #[.int .i64 (rd x5_1 (ji10))] rfl (by (try simp only [List.map_toArray, List.map_cons, List.map_nil]); first | done | (simp only [hji10]; rfl) | rfl | (simp only [List.length_drop, List.length_take]; rfl)) ?_; (with_reducible refine (stoleref0_Decimal.calls kj6 (rd x5_1 (ji10)) t196 _ A13.out).mono ?_); rintro e w57 ⟨rfl, hb⟩; refine ⟨_, rfl, ?_⟩; have n0_ := Aside0.mk (Kd.R_below (by (with_reducible repeat (first | apply Kd.R_alloc | apply Kd.R_drewN | apply Kd.R_drew)); exact HO_5.out) hb); have n1_ := Aside0.mk (below_step (by repeat (first | (with_reducible first | exact HB.out | apply below_alloc | apply pw_below_drewN | apply below_drew1) | exact HB.out)) hb); clear HO_5; clear HB; have HO_5 := n0_; have HB := n1_; clear n0_ n1_; (try clear hb); (try clear hb2); (try clear hk); (try clear hi); have p197 : 0 ≤ (x7_1 : Int) := of_decide_eq_true (by first | (with_reducible assumption) | assumption); have q197 : x7_1 < (l0.length : Int) := of_decide_eq_true (by first | (with_reducible assumption) | assumption); obtain ⟨ad197, e197, hx197_0⟩ := Kd.at_int HR0.out x7_1 p197 q197; cases e197; replace hx197_0 := (HB.out.cell (World.block_lt_of_cell? w _ hx197_0)).trans hx197_0; replace p197 := eq_true p197; replace q197 := eq_true q197) | ((with_reducible refine gate_dst (N := 43) rfl ?_); refine Kd.R_lit (Kd.int .i64) _ 3 ?hg (N := 43) ?hd (xs := ([] : List Int)) (inner := []) (ok := fun _ => True) (okp := fun _ => True) ?hr ?hp (fun _ hk => hk) trivial (Below.refl _ _) (Nat.le_refl _) (by simp) ?_; (case hd => rfl); (case hg => rfl); (case hr => first | (go_simp; done) | (go_simp; rfl)); (case hp => exact (Reps.none _ _)); intro v206 w58 ho59 hb hg_ hnew_; clear hg_ hnew_; (first | rw [← Ny205.out] at ho59 | (simp only [Int.reduceToNat] at ho59; rw [← Ny205.out] at ho59)); have n0_ := Aside0.mk (Kd.R_elder' (by (with_reducible repeat (first | apply Kd.R_alloc | apply Kd.R_drewN | apply Kd.R_drew)); exact HO_5.out) (Kd.R_base ho59) hb); have n1_ := Aside0.mk (Kd.R_lower (Kd.R_new' ho59 (Kd.R_lt (by (with_reducible repeat (first | apply Kd.R_alloc | apply Kd.R_drewN | apply Kd.R_drew)); exact HO_5.out))) (below_size (by repeat (first | (with_reducible first | exact HB.out | apply below_alloc | apply pw_below_drewN | apply below_drew1) | exact HB.out)))); have n2_ := Aside0.mk (below_step (by repeat (first | (with_reducible first | exact HB.out | apply below_alloc | apply pw_below_drewN | apply below_drew1) | exact HB.out)) hb); clear HO_5; clear HB; have HO_5 := n0_; have HO207 := n1_; have HB := n2_; clear n0_ n1_ n2_; clear hb ho59; have q60 : ((ji10) : Int) ≤ ((x5_1.length : Int) : Int) := of_decide_eq_true (by first | (with_reducible assumption) | assumption); obtain ⟨i060, hi060, _, hsz60, _⟩ := info_parts info3; have hroom60 : x5_1.length ≤ co56 := (Kd.R_reads' HO_5.out).2.1; have hC60 : Kd.C (Kd.int .i64) _ (some ad195) x5_1.length x5_1 := (Kd.R_reads' HO_5.out).2.2; have hcut60 := cut_to (P := Tryz.prog) 33 3 .i64 Tryz.underlying33 hi060 (some ad195) x5_1.length co56 (ji10) (of_decide_eq_true (by first | (with_reducible assumption) | assumption)) q60 hroom60; have hr60 := Kd.C_take (m := ((ji10) : Int).toNat) hC60 (by omega); have hy60 : y208.length = ((ji10) : Int).toNat := (by rw [Ny208.out, List.length_take]; omega); rw [← Ny208.out] at hr60; rw [← hy60] at hcut60; have HR211 := Aside0.mk hr60; have HC211 := Aside0.mk (show y208.length ≤ co56 from by omega); clear hr60 hC60 hroom60 hi060 hsz60; have KY60 := Aside0.mk hy60; clear hy60; have KL60 := Aside0.mk (show ((ji10) : Int).toNat ≤ x5_1.length from by omega); replace q60 := eq_true q60) | ((with_reducible refine gate_builtin (b := .append) (xs := #[.tmp 43, .tmp 48]) rfl ?_); at_builtin; refine Kd.R_append_rows (Kd.int .i64) (w0 := w) w.heap.size rfl (.tmp 43) (.tmp 48) 33 3 (.int .i64 0) 8 rfl Tryz.underlying33 info3 rfl (by decide) (by omega) v206 y205 y208 _ _ _ (fun k_ => some k_ ≠ (.slice (some ad195) x5_1.length co56 : Value).ownBlock) (fun _ => False) rfl rfl ?aO ?aR (fun _ _ h => h) (fun _ h => h.elim) ?aF ?aB ?aS ?aL ?_; (case aR => repeat (first | exact (by repeat (first | (with_reducible exact HR211.out) | (with_reducible refine Kd.C_alloc ?_ _) | (with_reducible refine Kd.C_drewN ?_ _) | (with_reducible refine Kd.C_drew ?_) | exact HR211.out)) | (with_reducible refine Kd.C_alloc ?_ _) | (with_reducible refine Kd.C_drewN ?_ _) | (with_reducible refine Kd.C_drew ?_))); (case aB => exact (by repeat (first | (with_reducible first | exact HB.out | apply below_alloc | apply pw_below_drewN | apply below_drew1) | exact HB.out))); (case aF => exact (fun k_ hk => Kd.fresh' (Kd.R_lt (by (with_reducible repeat (first | apply Kd.R_alloc | apply Kd.R_drewN | apply Kd.R_drew)); exact HO_5.out)) k_ hk)); (case aO => exact (by (with_reducible repeat (first | apply Kd.R_alloc | apply Kd.R_drewN | apply Kd.R_drew)); exact Kd.R_mono HO207.out (fun _ hk => hk.2))); (case aS => exact (below_size (by repeat (first | (with_reducible first | exact HB.out | apply below_alloc | apply pw_below_drewN | apply below_drew1) | exact HB.out)))); (case aL => have := LMc55.out; first | omega | exact Nat.le_of_lt this); intro v213 w61 ho hb hg hat; rw [← Ny212.out] at ho; have n0_ := Aside0.mk (Kd.R_after (ok := (fun _ => True)) (by (with_reducible repeat (first | apply Kd.R_alloc | apply Kd.R_drewN | apply Kd.R_drew)); exact HO_5.out) hg hat); have n1_ := Aside0.mk (hb); have n2_ := Aside0.mk ((show Kd.C (Kd.int .i64) w61 (some ad195) y208.length y208 from by rw [Ny208.out]; exact Kd.C_take (m := ((ji10) : Int).toNat) ((Kd.R_reads' (Kd.R_after (ok := (fun _ => True)) (by (with_reducible repeat (first | apply Kd.R_alloc | apply Kd.R_drewN | apply Kd.R_drew)); exact HO_5.out) hg hat)).2.2) KL60.out)); have n3_ := Aside0.mk (ho); clear HO_5; clear HB; clear HR211; clear HO207; have HO_5 := n0_; have HB := n1_; have HR211 := n2_; have HO214 := n3_; clear n0_ n1_ n2_ n3_; clear ho hb hg hat))
                  go_roundg kj6
                  case measure => have := HK1.out; have := HJ6.out; omega
                  case rel => exact ⟨(x3_1 ++ (⟨#[60, 47, 117, 62]⟩ : ByteArray)), (x4_1), (y212), (x6_1), (wrap64 (x7_1 + 1)), (by first | rfl | (simp; done) | (simp [*]; done)), (by first | rfl | (simp; done) | (simp [*]; done)), (by first | rfl | (simp; done) | (simp [*]; done)), (by first | rfl | (simp; done) | (simp [*]; done)), H', ⟨by have := HK1.out; have := HJ6.out; omega⟩, ⟨by (with_reducible repeat (first | apply Kd.R_alloc | apply Kd.R_drewN | apply Kd.R_drew)); exact Kd.R_mono HO214.out (fun _ hk => trivial)⟩, ⟨by repeat (first | (with_reducible first | exact HB.out | apply below_alloc | apply pw_below_drewN | apply below_drew1) | exact HB.out)⟩⟩
                 ·rw [if_neg c55] at H
                  exact absurd H (by simp)
                ·rw [if_neg c54] at H
                 exact absurd H (by simp)
               ·rw [if_neg c52] at H
                have c52b0 : decide (1 < (x5_1.length : Int)) = false := decide_eq_false c52
                have c52b1 : decide (1 < x5_1.length) = false := decide_eq_false (by omega)
                clear c52
                have H' := Aside0.mk H
                clear H
                obtain ⟨Ao62, co62, eo62⟩ := Kd.R_slice HO_5.out
                subst eo62
                have p195 : 0 ≤ ((ji10) : Int) := of_decide_eq_true (by first | (with_reducible assumption) | assumption)
                have q195 : (ji10) < (x5_1.length : Int) := of_decide_eq_true (by first | (with_reducible assumption) | assumption)
                obtain ⟨ad195, e195, hx195_0⟩ := Kd.at_int (Kd.R_reads' HO_5.out).2.2 (ji10) p195 q195
                cases e195
                replace p195 := eq_true p195
                replace q195 := eq_true q195
                go_wp2_with (first | ((with_reducible refine gate_callee (f := 24) rfl ?_); refine goesL_ (some 32) rfl rfl Tryz.func24 (by kernel_rfl) rfl #[.int .i64 (rd x5_1 (ji10))] rfl (by (try simp only [List.map_toArray, List.map_cons, List.map_nil]); first | done | (simp only [hji10]; rfl) | rfl | (simp only [List.length_drop, List.length_take]; rfl)) ?_; (with_reducible refine (stoleref0_Decimal.calls kj6 (rd x5_1 (ji10)) t196 _ A13.out).mono ?_); rintro e w63 ⟨rfl, hb⟩; refine ⟨_, rfl, ?_⟩; have n0_ := Aside0.mk (Kd.R_below (by (with_reducible repeat (first | apply Kd.R_alloc | apply Kd.R_drewN | apply Kd.R_drew)); exact HO_5.out) hb); have n1_ := Aside0.mk (below_step (by repeat (first | (with_reducible first | exact HB.out | apply below_alloc | apply pw_below_drewN | apply below_drew1) | exact HB.out)) hb); clear HO_5; clear HB; have HO_5 := n0_; have HB := n1_; clear n0_ n1_; (try clear hb); (try clear hb2); (try clear hk); (try clear hi); have p197 : 0 ≤ (x7_1 : Int) := of_decide_eq_true (by first | (with_reducible assumption) | assumption); have q197 : x7_1 < (l0.length : Int) := of_decide_eq_true (by first | (with_reducible assumption) | assumption); obtain ⟨ad197, e197, hx197_0⟩ := Kd.at_int HR0.out x7_1 p197 q197; cases e197; replace hx197_0 := (HB.out.cell (World.block_lt_of_cell? w _ hx197_0)).trans hx197_0; replace p197 := eq_true p197; replace q197 := eq_true q197))
                go_roundg kj6
                case measure => have := HK1.out; have := HJ6.out; omega
                case rel => exact ⟨(x3_1 ++ (⟨#[60, 47, 117, 62]⟩ : ByteArray)), (x4_1), (x5_1), (x6_1), (wrap64 (x7_1 + 1)), (by first | rfl | (simp; done) | (simp [*]; done)), (by first | rfl | (simp; done) | (simp [*]; done)), (by first | rfl | (simp; done) | (simp [*]; done)), (by first | rfl | (simp; done) | (simp [*]; done)), H', ⟨by have := HK1.out; have := HJ6.out; omega⟩, ⟨by (with_reducible repeat (first | apply Kd.R_alloc | apply Kd.R_drewN | apply Kd.R_drew)); exact HO_5.out⟩, ⟨by repeat (first | (with_reducible first | exact HB.out | apply below_alloc | apply pw_below_drewN | apply below_drew1) | exact HB.out)⟩⟩
              ·rw [if_neg c51] at H
               exact absurd H (by simp)
          ·rw [if_neg c15] at H
           exact absurd H (by simp)
         ·rw [if_neg c14] at H
          exact absurd H (by simp)
        ·rw [if_neg c12] at H
         exact absurd H (by simp)
       ·rw [if_neg c11] at H
        exact absurd H (by simp)
      ·replace c9 := Bool.eq_false_iff.mpr c9
       subst c9
       have H1 : ((page_Parse.f x3_1).bind fun bt215 => ((page_Skeleton.f bt215.1).bind fun bt219 => ((stolelaw0_Num.f bt215.2).bind fun t221 => (if t221 = 0 then ((stolelaw0_Num.f bt219.2).bind fun t222 => (if t222 = 0 then (some (bt219.1.toList == x4_1.toList)) else (some false))) else (some false))))) = some r := by rw [if_neg (show ¬ (false = true) by decide)] at H; exact H
       clear H
       have H := H1
       clear H1
       replace H := Option.bind_eq_some_iff.mp H
       obtain ⟨⟨t215, t216⟩, A640, H⟩ := H
       replace H : ((page_Skeleton.f t215).bind fun bt219 => ((stolelaw0_Num.f t216).bind fun t221 => (if t221 = 0 then ((stolelaw0_Num.f bt219.2).bind fun t222 => (if t222 = 0 then (some (bt219.1.toList == x4_1.toList)) else (some false))) else (some false)))) = some r := H
       have A64 := Aside0.mk A640
       clear A640
       replace H := Option.bind_eq_some_iff.mp H
       obtain ⟨⟨t219, t220⟩, A650, H⟩ := H
       replace H : ((stolelaw0_Num.f t216).bind fun t221 => (if t221 = 0 then ((stolelaw0_Num.f t220).bind fun t222 => (if t222 = 0 then (some (t219.toList == x4_1.toList)) else (some false))) else (some false))) = some r := H
       have A65 := Aside0.mk A650
       clear A650
       replace H := Option.bind_eq_some_iff.mp H
       obtain ⟨t221, A660, H⟩ := H
       replace H : (if t221 = 0 then ((stolelaw0_Num.f t220).bind fun t222 => (if t222 = 0 then (some (t219.toList == x4_1.toList)) else (some false))) else (some false)) = some r := H
       have A66 := Aside0.mk A660
       clear A660
       by_cases c67 : t221 = 0
       ·rw [if_pos c67] at H
        have c67b0 : (t221 == 0) = true := beq_iff_eq.mpr c67
        have c67b1 : (t221 != 0) = false := bne_eq_false_iff_eq.mpr c67
        clear c67
        replace H := Option.bind_eq_some_iff.mp H
        obtain ⟨t222, A680, H⟩ := H
        replace H : (if t222 = 0 then (some (t219.toList == x4_1.toList)) else (some false)) = some r := H
        have A68 := Aside0.mk A680
        clear A680
        by_cases c69 : t222 = 0
        ·rw [if_pos c69] at H
         have c69b0 : (t222 == 0) = true := beq_iff_eq.mpr c69
         have c69b1 : (t222 != 0) = false := bne_eq_false_iff_eq.mpr c69
         clear c69
         obtain rfl := Option.some.inj H
         go_wp2_with (first | ((with_reducible refine gate_callee (f := 27) rfl ?_); refine goesL_ (some 101) rfl rfl Tryz.func27 (by kernel_rfl) rfl #[.string x3_1] rfl (by (try simp only [List.map_toArray, List.map_cons, List.map_nil]); first | done | rfl | (simp only [List.length_drop, List.length_take]; rfl)) ?_; (with_reducible refine (page_Parse.calls x3_1 t215 t216 _ (tabs_below HT.out (by repeat (first | (with_reducible first | exact HB.out | apply below_alloc | apply pw_below_drewN | apply below_drew1) | exact HB.out))) A64.out).mono ?_); rintro e w70 ⟨v217, rfl, ho0, hb⟩; refine ⟨_, rfl, ?_⟩; have n0_ := Aside0.mk (Kd.R_below (by (with_reducible repeat (first | apply Kd.R_alloc | apply Kd.R_drewN | apply Kd.R_drew)); exact HO_5.out) hb); have n1_ := Aside0.mk (Kd.S_lower ho0 (below_size (by repeat (first | (with_reducible first | exact HB.out | apply below_alloc | apply pw_below_drewN | apply below_drew1) | exact HB.out)))); have n2_ := Aside0.mk (below_step (by repeat (first | (with_reducible first | exact HB.out | apply below_alloc | apply pw_below_drewN | apply below_drew1) | exact HB.out)) hb); clear HO_5; clear HB; have HO_5 := n0_; have HO218 := n1_; have HB := n2_; clear n0_ n1_ n2_; (try clear hb); (try clear hb2); (try clear hk); (try clear hi); (try clear ho0); obtain ⟨Ao71, co71, eo71⟩ := Kd.S_slice HO218.out; subst eo71) | ((with_reducible refine gate_callee (f := 29) rfl ?_); refine goesL_ (some 106) rfl rfl Tryz.func29 (by kernel_rfl) rfl #[.slice Ao71 t215.length co71] rfl (by (try simp only [List.map_toArray, List.map_cons, List.map_nil]); first | done | rfl | (simp only [List.length_drop, List.length_take]; rfl)) ?_; (with_reducible refine (page_Skeleton.calls _ _ t215 t219 t220 _ (tabs_below HT.out (by repeat (first | (with_reducible first | exact HB.out | apply below_alloc | apply pw_below_drewN | apply below_drew1) | exact HB.out))) ?side1 ?side2 A65.out).mono ?_); (case side1 => repeat (first | exact (Kd.S_reads' HO218.out).2.2 | (with_reducible refine Kd.C_alloc ?_ _) | (with_reducible refine Kd.C_drewN ?_ _) | (with_reducible refine Kd.C_drew ?_))); (case side2 => exact (Kd.S_reads' HO218.out).2.1); rintro e w72 ⟨rfl, hb⟩; refine ⟨_, rfl, ?_⟩; have n0_ := Aside0.mk (Kd.R_below (by (with_reducible repeat (first | apply Kd.R_alloc | apply Kd.R_drewN | apply Kd.R_drew)); exact HO_5.out) hb); have n1_ := Aside0.mk (Kd.S_below (by (with_reducible repeat (first | apply Kd.S_alloc | apply Kd.S_drewN | apply Kd.S_drew)); exact HO218.out) hb); have n2_ := Aside0.mk (below_step (by repeat (first | (with_reducible first | exact HB.out | apply below_alloc | apply pw_below_drewN | apply below_drew1) | exact HB.out)) hb); clear HO_5; clear HO218; clear HB; have HO_5 := n0_; have HO218 := n1_; have HB := n2_; clear n0_ n1_ n2_; (try clear hb); (try clear hb2); (try clear hk); (try clear hi)) | ((with_reducible refine gate_callee (f := 21) rfl ?_); refine goesL_ (some 110) rfl rfl Tryz.func21 (by kernel_rfl) rfl #[.int .i64 t216] rfl (by (try simp only [List.map_toArray, List.map_cons, List.map_nil]); first | done | rfl | (simp only [List.length_drop, List.length_take]; rfl)) ?_; (with_reducible refine (stolelaw0_Num.calls t216 t221 _ A66.out).mono ?_); rintro e w' ⟨rfl, ⟨nd, rfl⟩⟩; refine ⟨_, rfl, ?_⟩) | (go_at_call 21; (with_reducible refine (stolelaw0_Num.calls t220 t222 _ A68.out).mono ?_); rintro e w' ⟨rfl, ⟨nd, rfl⟩⟩))
         go_ret
         exact ⟨by first | rfl | (simp [errW_none, errW_some] <;> rfl) | (simp [*, errW_none, errW_some] <;> rfl), by repeat (first | (with_reducible first | exact HB.out | apply below_alloc | apply pw_below_drewN | apply below_drew1) | exact HB.out)⟩
        ·rw [if_neg c69] at H
         have c69b0 : (t222 == 0) = false := beq_eq_false_iff_ne.mpr c69
         have c69b1 : (t222 != 0) = true := bne_iff_ne.mpr c69
         obtain rfl := Option.some.inj H
         exact absurd hr (by simp)
       ·rw [if_neg c67] at H
        have c67b0 : (t221 == 0) = false := beq_eq_false_iff_ne.mpr c67
        have c67b1 : (t221 != 0) = true := bne_iff_ne.mpr c67
        obtain rfl := Option.some.inj H
        exact absurd hr (by simp)
 ·replace c3 := Bool.eq_false_iff.mpr c3
  subst c3
  have H1 : (some false) = some r := by rw [if_neg (show ¬ (false = true) by decide)] at H; exact H
  clear H
  have H := H1
  clear H1
  obtain rfl := Option.some.inj H
  exact absurd hr (by simp)
def stolelaw8_PageRows.Pure : Prop := ∀ (l0 : List Int), l0.length ≤ maxLen → l0.length * 8 ≤ 140737488351232 → (∀ x ∈ l0, (Lit.int .i64 x).wf = true) → ∃ k, stolelaw8_PageRows.f k l0 = some true
theorem stolelaw8_PageRows.walk (P : stolelaw8_PageRows.Pure) (a0 : Option Addr) (len0 cap0 : Nat) (z0 : List Int) (w : World) (hT : Tabs w) (w0 : (a0 = none ∧ len0 = 0 ∧ cap0 = 0 ∧ z0 = []) ∨ ∃ x, a0 = some x ∧ len0 ≤ cap0 ∧ cap0 ≤ maxLen ∧ z0.length = cap0 ∧ (∀ i, i < z0.length → w.cell? (x.add i) = some (.int .i64 (z0.getD i 0))) ∧ ∀ n ∈ z0, (Lit.int .i64 n).wf = true) (y0 : len0 * 8 ≤ 140737488351232) :
  Calls Tryz.prog 8 #[.slice a0 len0 cap0] w fun e w' => e = .returned (.bool true) ∧ Below w.heap.size w w' := by
 obtain ⟨l0, rfl, hr0, hm0, hw0, hc0⟩ := ReadsInt.ofRowC w0
 obtain ⟨k, h⟩ := P l0 hm0 y0 hw0
 refine (stolelaw8_PageRows.calls k _ _ l0 true w hT (Kd.C_of_reads (d := (0 : Int)) (h1 := fun _ => rfl) hr0) hc0 h rfl).mono ?_
 rintro e w' ⟨rfl, hd⟩
 exact ⟨rfl, hd⟩
end Go.Proofs.YtfmcdlbbbmeolaaGreatDoor.XP
end
section
namespace Go.Proofs.YtfmcdlbbbmeolaaGreatDoor.XP
end Go.Proofs.YtfmcdlbbbmeolaaGreatDoor.XP
end
section
namespace Go.Proofs.YtfmcdlbbbmeolaaGreatDoor.P8
open Go.RowKit Go.Proofs.YtfmcdlbbbmeolaaGreatDoor.XK Go.Proofs.YtfmcdlbbbmeolaaGreatDoor.XP Go.Proofs.YtfmcdlbbbmeolaaGreatDoor.Tk Go.Proofs.YtfmcdlbbbmeolaaGreatDoor.ExtP Go.Proofs.YtfmcdlbbbmeolaaGreatDoor.Base Go.Proofs.YtfmcdlbbbmeolaaGreatDoorW.PrintWords Go.Proofs.YtfmcdlbbbmeolaaGreatDoorW.PrintLast Go.Proofs.YtfmcdlbbbmeolaaGreatDoorW.PrintMore
open Go.Proofs.YtfmcdlbbbmeolaaGreatDoor.Tr (parseF skR skS it4 tkS mayNs parse_ok parse_err skel_parse skel_f NodB toks noText tkS_noText)
set_option linter.unusedVariables false
set_option linter.unusedSimpArgs false
set_option maxRecDepth 100000
theorem parse_f (b : ByteArray) : page_Parse.f b = some (parseF b.data.toList) := by
  unfold page_Parse.f tok_Tokens.f parseF
  rw [tokens_eq]
  simp only [Option.bind_some]
  have hb := (toks_bnd b.data.toList).1
  split
  · unfold tree_Build.f
    rw [if_pos (by omega)]; rfl
  · rfl
theorem parse_long (n : Nat) (h : 65536 < n) (x : Int) : page_Parse.f (strOfNums (List.replicate n x)) = some ([], 500) := by
  rw [parse_f]
  unfold parseF tokensM
  rw [strOfNums_data, List.length_map, List.length_replicate, if_pos h]; rfl
theorem skel_nil : page_Skeleton.f [] = some (⟨#[]⟩, 800) := by
  rw [skel_f [] (by decide) (fun x hx => (by cases hx))]; rfl
def pg0 : List UInt8 := [60, 112, 32, 97, 61, 49, 62, 120, 60, 98, 62, 121, 60, 47, 98, 62, 60, 47, 112, 62, 60, 33, 113, 62]
def ns0 : List S69 := [⟨0, ⟨#[]⟩, ⟨#[]⟩, [], -1⟩, ⟨1, ⟨#[112]⟩, ⟨#[]⟩, [⟨⟨#[97]⟩, ⟨#[49]⟩⟩], 0⟩, ⟨2, ⟨#[]⟩, ⟨#[120]⟩, [], 1⟩, ⟨1, ⟨#[98]⟩, ⟨#[]⟩, [], 1⟩, ⟨2, ⟨#[]⟩, ⟨#[121]⟩, [], 3⟩, ⟨3, ⟨#[]⟩, ⟨#[113]⟩, [], 0⟩]
theorem pg0_eq : parseF pg0 = (ns0, 0) := by kernel_rfl
theorem sk0_eq : skR ns0 = ([48, 32, 101, 32, 112, 32, 97, 10, 49, 32, 101, 32, 98, 10, 48, 32, 99, 32, 113, 10], 0) := by kernel_rfl
set_option maxHeartbeats 4000000 in
theorem awake_ok : stolelaw8_awake.f 60 = some true := by
  have h1 : page_Parse.f ⟨pg0.toArray⟩ = some (ns0, 0) := by rw [parse_f]; show some (parseF pg0) = _; rw [pg0_eq]
  have h2 : page_Skeleton.f ns0 = some (⟨(skR ns0).1.toArray⟩, (skR ns0).2) := by have := skel_parse pg0; rwa [pg0_eq] at this
  rw [sk0_eq] at h2
  unfold pg0 at h1
  unfold stolelaw8_awake.f
  rw [h1, parse_long 65537 (by decide), skel_nil]
  simp only [Option.bind_some]
  rw [h2]
  decide +kernel
theorem awake_ev : Ev (fun k => stolelaw8_awake.f k) true := Ev.of (fun k => stolelaw8_awake.mono k) awake_ok
end Go.Proofs.YtfmcdlbbbmeolaaGreatDoor.P8
end
section
namespace Go.Proofs.YtfmcdlbbbmeolaaGreatDoor.P8
open Go.RowKit Go.Proofs.YtfmcdlbbbmeolaaGreatDoor.XK Go.Proofs.YtfmcdlbbbmeolaaGreatDoor.XP Go.Proofs.YtfmcdlbbbmeolaaGreatDoor.Tk Go.Proofs.YtfmcdlbbbmeolaaGreatDoor.ExtP Go.Proofs.YtfmcdlbbbmeolaaGreatDoor.Base Go.Proofs.YtfmcdlbbbmeolaaGreatDoorW.PrintWords Go.Proofs.YtfmcdlbbbmeolaaGreatDoorW.PrintLast Go.Proofs.YtfmcdlbbbmeolaaGreatDoorW.PrintMore
open Go.Proofs.YtfmcdlbbbmeolaaGreatDoor.Tr (parseF skR skS it4 tkS tkStep SkT topOf popAt lineL mayNs parse_ok parse_err skel_parse skel_f NodB toks noText tkS_noText build_ok buildF)
open Go.Proofs.YtfmcdlbbbmeolaaGreatDoor.Ln (linesB linesL lines_none)
set_option linter.unusedVariables false
set_option linter.unusedSimpArgs false
set_option maxRecDepth 100000
def dL (i : Nat) : List UInt8 := it4 (i : Int)
def rU (i : Nat) : List UInt8 := [60, 117, 32, 107, 61, 39] ++ dL i ++ [39, 62]
def rBr (i : Nat) : List UInt8 := [60, 98, 114, 62] ++ dL i
def rC (i : Nat) : List UInt8 := [60, 33, 99] ++ dL i ++ [62]
theorem run_u (out : List S41) (buf pnd : List UInt8) (ats : List S39) (cur : Option S39) : ∀ i, i < 30 → runM ⟨atS 0, out, buf, pnd, ⟨#[]⟩, ats, cur⟩ (rU i) = ⟨atS 0, out ++ txtL ⟨#[]⟩ (buf ++ pnd) ++ [⟨1, ⟨#[117]⟩, ⟨#[]⟩, [⟨⟨#[107]⟩, bts (dL i)⟩], false⟩], [], [], ⟨#[]⟩, [], some ⟨⟨#[107]⟩, bts (dL i)⟩⟩
  | 0, _ => by kernel_rfl
  | 1, _ => by kernel_rfl
  | 2, _ => by kernel_rfl
  | 3, _ => by kernel_rfl
  | 4, _ => by kernel_rfl
  | 5, _ => by kernel_rfl
  | 6, _ => by kernel_rfl
  | 7, _ => by kernel_rfl
  | 8, _ => by kernel_rfl
  | 9, _ => by kernel_rfl
  | 10, _ => by kernel_rfl
  | 11, _ => by kernel_rfl
  | 12, _ => by kernel_rfl
  | 13, _ => by kernel_rfl
  | 14, _ => by kernel_rfl
  | 15, _ => by kernel_rfl
  | 16, _ => by kernel_rfl
  | 17, _ => by kernel_rfl
  | 18, _ => by kernel_rfl
  | 19, _ => by kernel_rfl
  | 20, _ => by kernel_rfl
  | 21, _ => by kernel_rfl
  | 22, _ => by kernel_rfl
  | 23, _ => by kernel_rfl
  | 24, _ => by kernel_rfl
  | 25, _ => by kernel_rfl
  | 26, _ => by kernel_rfl
  | 27, _ => by kernel_rfl
  | 28, _ => by kernel_rfl
  | 29, _ => by kernel_rfl
  | n + 30, h => absurd h (by omega)
theorem run_br (out : List S41) (buf pnd : List UInt8) (ats : List S39) (cur : Option S39) : ∀ i, i < 30 → runM ⟨atS 0, out, buf, pnd, ⟨#[]⟩, ats, cur⟩ (rBr i) = ⟨atS 0, out ++ txtL ⟨#[]⟩ (buf ++ pnd) ++ [⟨1, ⟨#[98, 114]⟩, ⟨#[]⟩, [], false⟩], [], dL i, ⟨#[]⟩, [], none⟩
  | 0, _ => by kernel_rfl
  | 1, _ => by kernel_rfl
  | 2, _ => by kernel_rfl
  | 3, _ => by kernel_rfl
  | 4, _ => by kernel_rfl
  | 5, _ => by kernel_rfl
  | 6, _ => by kernel_rfl
  | 7, _ => by kernel_rfl
  | 8, _ => by kernel_rfl
  | 9, _ => by kernel_rfl
  | 10, _ => by kernel_rfl
  | 11, _ => by kernel_rfl
  | 12, _ => by kernel_rfl
  | 13, _ => by kernel_rfl
  | 14, _ => by kernel_rfl
  | 15, _ => by kernel_rfl
  | 16, _ => by kernel_rfl
  | 17, _ => by kernel_rfl
  | 18, _ => by kernel_rfl
  | 19, _ => by kernel_rfl
  | 20, _ => by kernel_rfl
  | 21, _ => by kernel_rfl
  | 22, _ => by kernel_rfl
  | 23, _ => by kernel_rfl
  | 24, _ => by kernel_rfl
  | 25, _ => by kernel_rfl
  | 26, _ => by kernel_rfl
  | 27, _ => by kernel_rfl
  | 28, _ => by kernel_rfl
  | 29, _ => by kernel_rfl
  | n + 30, h => absurd h (by omega)
theorem run_c (out : List S41) (buf pnd : List UInt8) (ats : List S39) (cur : Option S39) : ∀ i, i < 30 → runM ⟨atS 0, out, buf, pnd, ⟨#[]⟩, ats, cur⟩ (rC i) = ⟨atS 0, out ++ txtL ⟨#[]⟩ (buf ++ pnd) ++ [⟨3, ⟨#[]⟩, bts (99 :: dL i), [], false⟩], [], [], ⟨#[]⟩, ats, cur⟩
  | 0, _ => by kernel_rfl
  | 1, _ => by kernel_rfl
  | 2, _ => by kernel_rfl
  | 3, _ => by kernel_rfl
  | 4, _ => by kernel_rfl
  | 5, _ => by kernel_rfl
  | 6, _ => by kernel_rfl
  | 7, _ => by kernel_rfl
  | 8, _ => by kernel_rfl
  | 9, _ => by kernel_rfl
  | 10, _ => by kernel_rfl
  | 11, _ => by kernel_rfl
  | 12, _ => by kernel_rfl
  | 13, _ => by kernel_rfl
  | 14, _ => by kernel_rfl
  | 15, _ => by kernel_rfl
  | 16, _ => by kernel_rfl
  | 17, _ => by kernel_rfl
  | 18, _ => by kernel_rfl
  | 19, _ => by kernel_rfl
  | 20, _ => by kernel_rfl
  | 21, _ => by kernel_rfl
  | 22, _ => by kernel_rfl
  | 23, _ => by kernel_rfl
  | 24, _ => by kernel_rfl
  | 25, _ => by kernel_rfl
  | 26, _ => by kernel_rfl
  | 27, _ => by kernel_rfl
  | 28, _ => by kernel_rfl
  | 29, _ => by kernel_rfl
  | n + 30, h => absurd h (by omega)
theorem run_e (out : List S41) (buf pnd : List UInt8) (ats : List S39) (cur : Option S39) : runM ⟨atS 0, out, buf, pnd, ⟨#[]⟩, ats, cur⟩ [60, 47, 117, 62] = ⟨atS 0, out ++ txtL ⟨#[]⟩ (buf ++ pnd) ++ [⟨2, ⟨#[117]⟩, ⟨#[]⟩, [], false⟩], [], [], ⟨#[]⟩, [], none⟩ := by kernel_rfl
theorem tk_more (a : List S41) (h : ByteArray) (b : List UInt8) (t : S41) : tkS it4 (a ++ txtL h b ++ [t]) = tkStep it4 (tkS it4 a) t := by
  have e : tkS it4 (a ++ txtL h b) = tkS it4 a := tkS_noText it4 _ _ (by rw [noText_app, noText_txt, List.append_nil])
  rw [← e]
  show List.foldl _ _ _ = _
  rw [List.foldl_append]; rfl
def stkOf : List Int → List (Int × ByteArray)
  | [] => []
  | a :: l => (a, ⟨#[]⟩) :: l.map fun x => (x, (⟨#[117]⟩ : ByteArray))
theorem stk_len : ∀ l, (stkOf l).length = l.length
  | [] => rfl
  | a :: l => by simp [stkOf]
theorem stk_snoc (v : Int) : ∀ l, l ≠ [] → stkOf (l ++ [v]) = stkOf l ++ [(v, ⟨#[117]⟩)]
  | [], h => absurd rfl h
  | a :: l, _ => by simp [stkOf]
theorem stk_top (l : List Int) (v : Int) : topOf (stkOf (l ++ [v])) = v := by
  cases l with
  | nil => rfl
  | cons a l => rw [stk_snoc v _ (by simp)]; unfold topOf; simp
theorem stk_pop (l : List Int) (v : Int) (h : l ≠ []) : popAt (stkOf (l ++ [v])) ⟨#[117]⟩ ((stkOf (l ++ [v])).length - 1) = stkOf l := by
  have hl := List.length_pos_iff.2 h
  rw [stk_len, List.length_append, List.length_singleton, Nat.add_sub_cancel]
  obtain ⟨n, hn⟩ : ∃ n, l.length = n + 1 := ⟨l.length - 1, by omega⟩
  rw [hn, popAt, stk_snoc v l h]
  have e : ((stkOf l ++ [(v, (⟨#[117]⟩ : ByteArray))]).getD (n + 1) (0, ⟨#[]⟩)) = (v, ⟨#[117]⟩) := by
    rw [List.getD_eq_getElem?_getD, List.getElem?_append_right (by rw [stk_len]; omega), stk_len, hn, Nat.sub_self]; rfl
  rw [e, if_pos rfl, List.take_append_of_le_length (by rw [stk_len]; omega), List.take_of_length_le (by rw [stk_len]; omega)]
structure PR (i : Nat) (x3 x4 : ByteArray) (x5 : List Int) (x6 : Int) : Prop where
  run : ∃ out buf pnd ats cur, runM m0 x3.data.toList = ⟨atS 0, out, buf, pnd, ⟨#[]⟩, ats, cur⟩ ∧ out.length ≤ 2 * i ∧ (tkS it4 out).out = x4.data.toList ∧ (tkS it4 out).next = x6 + 1 ∧ (tkS it4 out).stk = stkOf x5
  s3 : x3.size ≤ 12 * i
  cr : ∀ b ∈ x3.data.toList, b ≠ 13
  s4 : x4.size ≤ 20 * i
  deep : ∃ l v, x5 = l ++ [v] ∧ l.length ≤ i ∧ 0 ≤ v ∧ v ≤ (i : Int)
  all : ∀ x ∈ x5, 0 ≤ x ∧ x ≤ (i : Int)
  many : 0 ≤ x6 ∧ x6 ≤ (i : Int)
theorem pr_start : PR 0 ⟨#[]⟩ ⟨#[]⟩ [0] 0 := ⟨⟨[], [], [], [], none, rfl, Nat.le_refl _, rfl, rfl, rfl⟩, Nat.le_refl _, fun b hb => (by cases hb), Nat.le_refl _, ⟨[], 0, rfl, Nat.le_refl _, Int.le_refl _, Int.le_refl _⟩, fun x hx => by
  have : x = 0 := by simpa using hx
  subst this; exact ⟨Int.le_refl _, Int.le_refl _⟩, Int.le_refl _, Int.le_refl _⟩
theorem dL_ok : ∀ i : Fin 64, (∀ x ∈ dL i.1, x ≠ 13) ∧ (dL i.1).length ≤ 2 := by decide +kernel
theorem decimal_all : ∀ i : Fin 64, stoleref0_Decimal.f 20 ((i.1 : Nat) : Int) = some (bts (dL i.1)) := by decide +kernel
theorem decimal_ev (i : Nat) (h : i < 64) : Ev (fun k => stoleref0_Decimal.f k ((i : Nat) : Int)) (bts (dL i)) := Ev.of (fun k => stoleref0_Decimal.mono _ k) (decimal_all ⟨i, h⟩)
theorem bts_size (l : List UInt8) : (bts l).size = l.length := by rw [← data_length, bts_data]
theorem txt_len (h : ByteArray) (b : List UInt8) : (txtL h b).length ≤ 1 := by cases b <;> simp [txtL]
theorem pr_end {i : Nat} {x3 x4 : ByteArray} {x5 : List Int} {x6 : Int} (h : PR i x3 x4 x5 x6) (hi : i ≤ 30) :
    Ev (fun k => (page_Parse.f x3).bind fun bt215 => ((page_Skeleton.f bt215.1).bind fun bt219 => ((stolelaw0_Num.f bt215.2).bind fun t221 => (if t221 = 0 then ((stolelaw0_Num.f bt219.2).bind fun t222 => (if t222 = 0 then (some (bt219.1.toList == x4.toList)) else (some false))) else (some false))))) true := by
  obtain ⟨out, buf, pnd, ats, cur, hr, hl, ho, _⟩ := h.run
  have hs3 := h.s3
  have hlen : x3.data.toList.length ≤ 360 := by rw [data_length]; omega
  have hT : tokensM x3.data.toList = (endM ⟨atS 0, out, buf, pnd, ⟨#[]⟩, ats, cur⟩, 0) := by
    unfold tokensM
    rw [if_neg (by omega), lines_none _ h.cr, hr]
  have hc : (tokensM x3.data.toList).1.length ≤ 100 := by
    rw [hT]
    show (out ++ txtL _ _).length ≤ 100
    have := txt_len ⟨#[]⟩ (if restB (atS 0) = true then buf ++ pnd else buf)
    rw [List.length_append]; exact Nat.le_trans (Nat.add_le_add hl this) (by omega)
  have hp : (parseF x3.data.toList).2 = 0 := by
    have hb := build_ok _ (toks_may x3.data.toList) (by omega)
    unfold parseF
    rw [if_pos (by rw [hT])]; exact hb
  have e := parse_ok _ hp
  have hn : tkS it4 (tokensM x3.data.toList).1 = tkS it4 out := by
    rw [hT]
    refine tkS_noText it4 _ _ ?_
    show noText (out ++ txtL _ _) = _
    rw [noText_app, noText_txt, List.append_nil]
  rw [hn] at e
  refine Ev.bindC (parse_f x3) (Ev.bindC (skel_parse _) ?_)
  refine Ev.bindC (s := 0) (by rw [hp]; rfl) (Ev.pos rfl ?_)
  refine Ev.bindC (s := 0) (by rw [e]; rfl) (Ev.pos rfl ?_)
  refine Ev.ofSome ?_
  rw [e]
  simp only
  have : (⟨(tkS it4 out).out.toArray⟩ : ByteArray) = x4 := ext_list (by rw [← ho])
  rw [this]; simp
end Go.Proofs.YtfmcdlbbbmeolaaGreatDoor.P8
end
section
namespace Go.Proofs.YtfmcdlbbbmeolaaGreatDoor.P8
open Go.RowKit Go.Proofs.YtfmcdlbbbmeolaaGreatDoor.XK Go.Proofs.YtfmcdlbbbmeolaaGreatDoor.XP Go.Proofs.YtfmcdlbbbmeolaaGreatDoor.Tk Go.Proofs.YtfmcdlbbbmeolaaGreatDoor.ExtP Go.Proofs.YtfmcdlbbbmeolaaGreatDoor.Base Go.Proofs.YtfmcdlbbbmeolaaGreatDoorW.PrintWords Go.Proofs.YtfmcdlbbbmeolaaGreatDoorW.PrintLast Go.Proofs.YtfmcdlbbbmeolaaGreatDoorW.PrintMore
open Go.Proofs.YtfmcdlbbbmeolaaGreatDoor.Tr (parseF skR skS it4 it4_len tkS tkStep SkT topOf popAt lineL mayNs parse_ok parse_err skel_parse skel_f NodB toks noText tkS_noText build_ok buildF)
set_option linter.unusedVariables false
set_option linter.unusedSimpArgs false
set_option maxRecDepth 100000
section
variable {i : Nat} {x3 x4 : ByteArray} {l : List Int} {v x6 : Int}
theorem kind_u : Tr.kindOf (⟨#[117]⟩ : ByteArray) = 0 := by kernel_rfl
theorem kind_br : Tr.kindOf (⟨#[98, 114]⟩ : ByteArray) = 1 := by kernel_rfl
theorem pr_data {a b : ByteArray} {r : List UInt8} (h : b.data.toList = a.data.toList ++ r) : b.size = a.size + r.length := by
  rw [← data_length, h, List.length_append, data_length]
theorem pr_step (h : PR i x3 x4 (l ++ [v]) x6) (hi : i < 30) (r : List UInt8) (hr13 : ∀ b ∈ r, b ≠ 13) (hrl : r.length ≤ 12) (t : S41)
    (hrun : ∀ out buf pnd ats cur, ∃ pnd' ats' cur', runM ⟨atS 0, out, buf, pnd, ⟨#[]⟩, ats, cur⟩ r = ⟨atS 0, out ++ txtL ⟨#[]⟩ (buf ++ pnd) ++ [t], [], pnd', ⟨#[]⟩, ats', cur'⟩)
    (x3' x4' : ByteArray) (h3 : x3'.data.toList = x3.data.toList ++ r) (x5' : List Int) (x6' : Int)
    (ht : ∀ s : SkT, s.out = x4.data.toList → s.next = x6 + 1 → s.stk = stkOf (l ++ [v]) → (tkStep it4 s t).out = x4'.data.toList ∧ (tkStep it4 s t).next = x6' + 1 ∧ (tkStep it4 s t).stk = stkOf x5')
    (h4 : x4'.size ≤ x4.size + 20) (hd : ∃ l' v', x5' = l' ++ [v'] ∧ l'.length ≤ i + 1 ∧ 0 ≤ v' ∧ v' ≤ ((i + 1 : Nat) : Int)) (ha : ∀ x ∈ x5', 0 ≤ x ∧ x ≤ ((i + 1 : Nat) : Int)) (hm : 0 ≤ x6' ∧ x6' ≤ ((i + 1 : Nat) : Int)) : PR (i + 1) x3' x4' x5' x6' := by
  obtain ⟨out, buf, pnd, ats, cur, q1, q2, q3, q4, q5⟩ := h.run
  obtain ⟨p', a', c', e⟩ := hrun out buf pnd ats cur
  have hs3 := h.s3
  have hs4 := h.s4
  refine ⟨⟨out ++ txtL ⟨#[]⟩ (buf ++ pnd) ++ [t], [], p', a', c', ?_, ?_, ?_⟩, ?_, ?_, by omega, hd, ha, hm⟩
  · rw [h3, run_app, q1, e]
  · rw [List.length_append, List.length_append, List.length_singleton]
    have := txt_len ⟨#[]⟩ (buf ++ pnd)
    omega
  · rw [tk_more]; exact ht _ q3 q4 q5
  · rw [pr_data h3]; omega
  · intro b hb
    rw [h3] at hb
    rcases List.mem_append.1 hb with hb | hb
    · exact h.cr b hb
    · exact hr13 b hb
theorem all_more (h : ∀ x ∈ l ++ [v], 0 ≤ x ∧ x ≤ (i : Int)) : ∀ x ∈ l ++ [v], 0 ≤ x ∧ x ≤ ((i + 1 : Nat) : Int) := fun x hx => by
  have := h x hx; omega
theorem dL_len (i : Nat) : (dL i).length ≤ 4 := it4_len _
theorem pr_u (h : PR i x3 x4 (l ++ [v]) x6) (hi : i < 30) (n : Nat) (hn : v = (n : Int)) : PR (i + 1) (((x3 ++ (⟨#[60, 117, 32, 107, 61, 39]⟩ : ByteArray)) ++ bts (dL i)) ++ (⟨#[39, 62]⟩ : ByteArray)) ((x4 ++ bts (dL n)) ++ (⟨#[32, 101, 32, 117, 32, 107, 10]⟩ : ByteArray)) ((l ++ [v]) ++ [x6 + 1]) (x6 + 1) := by
  obtain ⟨d1, d2⟩ := dL_ok ⟨i, by omega⟩
  simp only at d1 d2
  have hm := h.many
  obtain ⟨l', v', e5, hl', _⟩ := h.deep
  have el : l'.length = l.length := by have := congrArg List.length e5; simp at this; omega
  refine pr_step h hi (rU i) ?_ ?_ ⟨1, ⟨#[117]⟩, ⟨#[]⟩, [⟨⟨#[107]⟩, bts (dL i)⟩], false⟩ (fun out buf pnd ats cur => ⟨_, _, _, run_u out buf pnd ats cur i hi⟩) _ _ ?_ _ _ ?_ ?_ ?_ ?_ ⟨by omega, by omega⟩
  · intro b hb
    unfold rU at hb
    simp only [List.mem_append, List.mem_cons, List.not_mem_nil, or_false] at hb
    rcases hb with (hb | hb) | hb
    · rcases hb with rfl | rfl | rfl | rfl | rfl | rfl <;> decide
    · exact d1 b hb
    · rcases hb with rfl | rfl <;> decide
  · unfold rU; simp only [List.length_append, List.length_cons, List.length_nil]; omega
  · rw [data_append, data_append, data_append, bts_data]; unfold rU; simp only [List.append_assoc]
  · intro s s1 s2 s3
    unfold tkStep
    rw [if_neg (show ¬ ((1 : Int) = 0) by decide), if_neg (show ¬ ((1 : Int) = 3) by decide), if_pos rfl]
    refine ⟨?_, by show s.next + 1 = _; rw [s2], ?_⟩
    · show s.out ++ lineL it4 (topOf s.stk) 1 _ _ _ = _
      rw [s1, s3, stk_top, data_append, data_append, bts_data, hn]
      unfold lineL dL
      simp
    · show (if Tr.kindOf (⟨#[117]⟩ : ByteArray) ≠ 1 ∧ s.stk.length ≤ 32 then s.stk ++ [(s.next, (⟨#[117]⟩ : ByteArray))] else s.stk) = _
      rw [if_pos ⟨by rw [kind_u]; decide, by rw [s3, stk_len, List.length_append, List.length_singleton]; omega⟩, s3, s2]; exact (stk_snoc (x6 + 1) (l ++ [v]) (by simp)).symm
  · rw [size_append, size_append, bts_size]; have := dL_len n; show x4.size + _ + 7 ≤ _; omega
  · exact ⟨l ++ [v], x6 + 1, rfl, by rw [List.length_append, List.length_singleton]; omega, by omega, by omega⟩
  · intro x hx
    rcases List.mem_append.1 hx with hx | hx
    · exact all_more h.all x hx
    · have : x = x6 + 1 := by simpa using hx
      omega
theorem pr_br (h : PR i x3 x4 (l ++ [v]) x6) (hi : i < 30) (n : Nat) (hn : v = (n : Int)) : PR (i + 1) ((x3 ++ (⟨#[60, 98, 114, 62]⟩ : ByteArray)) ++ bts (dL i)) ((x4 ++ bts (dL n)) ++ (⟨#[32, 101, 32, 98, 114, 10]⟩ : ByteArray)) (l ++ [v]) (x6 + 1) := by
  obtain ⟨d1, d2⟩ := dL_ok ⟨i, by omega⟩
  simp only at d1 d2
  have hm := h.many
  obtain ⟨l', v', e5, hl', hv'⟩ := h.deep
  refine pr_step h hi (rBr i) ?_ ?_ ⟨1, ⟨#[98, 114]⟩, ⟨#[]⟩, [], false⟩ (fun out buf pnd ats cur => ⟨_, _, _, run_br out buf pnd ats cur i hi⟩) _ _ ?_ _ _ ?_ ?_ ⟨l', v', e5, by omega, by omega, by omega⟩ (all_more h.all) ⟨by omega, by omega⟩
  · intro b hb
    unfold rBr at hb
    simp only [List.mem_append, List.mem_cons, List.not_mem_nil, or_false] at hb
    rcases hb with hb | hb
    · rcases hb with rfl | rfl | rfl | rfl <;> decide
    · exact d1 b hb
  · unfold rBr; simp only [List.length_append, List.length_cons, List.length_nil]; omega
  · rw [data_append, data_append, bts_data]; unfold rBr; simp only [List.append_assoc]
  · intro s s1 s2 s3
    unfold tkStep
    rw [if_neg (show ¬ ((1 : Int) = 0) by decide), if_neg (show ¬ ((1 : Int) = 3) by decide), if_pos rfl]
    refine ⟨?_, by show s.next + 1 = _; rw [s2], ?_⟩
    · show s.out ++ lineL it4 (topOf s.stk) 1 _ _ _ = _
      rw [s1, s3, stk_top, data_append, data_append, bts_data, hn]
      unfold lineL dL
      simp
    · show (if Tr.kindOf (⟨#[98, 114]⟩ : ByteArray) ≠ 1 ∧ s.stk.length ≤ 32 then s.stk ++ [(s.next, (⟨#[98, 114]⟩ : ByteArray))] else s.stk) = _
      rw [if_neg (fun e => e.1 kind_br), s3]
  · rw [size_append, size_append, bts_size]; have := dL_len n; show x4.size + _ + 6 ≤ _; omega
theorem pr_c (h : PR i x3 x4 (l ++ [v]) x6) (hi : i < 30) (n : Nat) (hn : v = (n : Int)) : PR (i + 1) (((x3 ++ (⟨#[60, 33, 99]⟩ : ByteArray)) ++ bts (dL i)) ++ (⟨#[62]⟩ : ByteArray)) ((((x4 ++ bts (dL n)) ++ (⟨#[32, 99, 32, 99]⟩ : ByteArray)) ++ bts (dL i)) ++ (⟨#[10]⟩ : ByteArray)) (l ++ [v]) (x6 + 1) := by
  obtain ⟨d1, d2⟩ := dL_ok ⟨i, by omega⟩
  simp only at d1 d2
  have hm := h.many
  obtain ⟨l', v', e5, hl', hv'⟩ := h.deep
  refine pr_step h hi (rC i) ?_ ?_ ⟨3, ⟨#[]⟩, bts (99 :: dL i), [], false⟩ (fun out buf pnd ats cur => ⟨_, _, _, run_c out buf pnd ats cur i hi⟩) _ _ ?_ _ _ ?_ ?_ ⟨l', v', e5, by omega, by omega, by omega⟩ (all_more h.all) ⟨by omega, by omega⟩
  · intro b hb
    unfold rC at hb
    simp only [List.mem_append, List.mem_cons, List.not_mem_nil, or_false] at hb
    rcases hb with (hb | hb) | hb
    · rcases hb with rfl | rfl | rfl <;> decide
    · exact d1 b hb
    · subst hb; decide
  · unfold rC; simp only [List.length_append, List.length_cons, List.length_nil]; omega
  · rw [data_append, data_append, data_append, bts_data]; unfold rC; simp only [List.append_assoc]
  · intro s s1 s2 s3
    unfold tkStep
    rw [if_neg (show ¬ ((3 : Int) = 0) by decide), if_pos rfl]
    refine ⟨?_, by show s.next + 1 = _; rw [s2], by show s.stk = _; rw [s3]⟩
    show s.out ++ lineL it4 (topOf s.stk) 3 _ _ _ = _
    rw [s1, s3, stk_top, data_append, data_append, data_append, data_append, bts_data, bts_data, hn]
    unfold lineL
    rw [bts_data]
    unfold dL
    simp
  · rw [size_append, size_append, size_append, size_append, bts_size, bts_size]; have := dL_len n; have := dL_len i; show x4.size + _ + 4 + _ + 1 ≤ _; omega
theorem pr_e (h : PR i x3 x4 (l ++ [v]) x6) (hi : i < 30) (x5' : List Int) (h5 : (l = [] ∧ x5' = l ++ [v]) ∨ (l ≠ [] ∧ x5' = l)) : PR (i + 1) (x3 ++ (⟨#[60, 47, 117, 62]⟩ : ByteArray)) x4 x5' x6 := by
  have hm := h.many
  have hal := h.all
  obtain ⟨l', v', e5, hl', hv'⟩ := h.deep
  have el : l'.length = l.length := by have := congrArg List.length e5; simp at this; omega
  have hsub : ∀ x ∈ x5', x ∈ l ++ [v] := by
    intro x hx
    rcases h5 with ⟨_, rfl⟩ | ⟨_, rfl⟩
    · exact hx
    · exact List.mem_append_left _ hx
  refine pr_step h hi [60, 47, 117, 62] (by decide) (by decide) ⟨2, ⟨#[117]⟩, ⟨#[]⟩, [], false⟩ (fun out buf pnd ats cur => ⟨_, _, _, run_e out buf pnd ats cur⟩) _ _ ?_ _ _ ?_ (by omega) ?_ (fun x hx => all_more hal x (hsub x hx)) ⟨by omega, by omega⟩
  · rw [data_append]
  · intro s s1 s2 s3
    unfold tkStep
    rw [if_neg (show ¬ ((2 : Int) = 0) by decide), if_neg (show ¬ ((2 : Int) = 3) by decide), if_neg (show ¬ ((2 : Int) = 1) by decide)]
    refine ⟨s1, s2, ?_⟩
    show popAt s.stk ⟨#[117]⟩ (s.stk.length - 1) = _
    rw [s3]
    rcases h5 with ⟨rfl, rfl⟩ | ⟨hne, rfl⟩
    · rfl
    · exact stk_pop _ v hne
  · rcases h5 with ⟨rfl, rfl⟩ | ⟨hne, rfl⟩
    · exact ⟨l', v', e5, by omega, by omega, by omega⟩
    · obtain ⟨a, b, e⟩ : ∃ a b, x5' = a ++ [b] := ⟨x5'.dropLast, x5'.getLast hne, (List.dropLast_concat_getLast hne).symm⟩
      have hb := hal b (by rw [e]; simp)
      exact ⟨a, b, e, by have := congrArg List.length e; simp at this; omega, by omega, by omega⟩
end
theorem rows_go (l0 : List Int) : ∀ (d i : Nat) (x3 x4 : ByteArray) (x5 : List Int) (x6 : Int), i + d = 30 → PR i x3 x4 x5 x6 → Ev (fun k => stolelaw8_PageRows.l0 k l0 x3 x4 x5 x6 (i : Int)) true := by
  intro d
  induction d with
  | zero =>
    intro i x3 x4 x5 x6 hi h
    have hend := pr_end h (by omega)
    refine Ev.step (f := fun k => _) (fun k => by rw [stolelaw8_PageRows.l0]) ?_
    by_cases hl : i < l0.length
    · refine Ev.pos (by omega) ?_
      rw [show decide ((i : Int) < 30) = false from decide_eq_false (by omega)]
      refine Ev.step (f := fun k => _) (fun k => by rw [stolelaw8_PageRows.j1]) ?_
      exact Ev.neg (by simp) hend
    · refine Ev.neg (by omega) ?_
      refine Ev.step (f := fun k => _) (fun k => by rw [stolelaw8_PageRows.j1]) ?_
      exact Ev.neg (by simp) hend
  | succ d ih =>
    intro i x3 x4 x5 x6 hi h
    have hend := pr_end h (by omega)
    refine Ev.step (f := fun k => _) (fun k => by rw [stolelaw8_PageRows.l0]) ?_
    by_cases hl : i < l0.length
    · refine Ev.pos (by omega) ?_
      rw [show decide ((i : Int) < 30) = true from decide_eq_true (by omega)]
      refine Ev.step (f := fun k => _) (fun k => by rw [stolelaw8_PageRows.j1]) ?_
      obtain ⟨l, v, rfl, hll, hv0, hv1⟩ := h.deep
      obtain ⟨n, hn⟩ : ∃ n : Nat, v = (n : Int) := ⟨v.toNat, by omega⟩
      have hlen : wrap64 (((l ++ [v]).length : Int) - 1) = (l.length : Int) := by
        rw [List.length_append, List.length_singleton]; unfold wrap64; omega
      have hlen2 : ((l ++ [v]).length : Int) = (l.length : Int) + 1 := by rw [List.length_append, List.length_singleton]; omega
      have hrd : rd (l ++ [v]) (l.length : Int) = (n : Int) := by
        rw [← hn]; simp [rd, List.getD_eq_getElem?_getD]
      have hwr : wrap64 ((i : Int) + 1) = ((i + 1 : Nat) : Int) := wrap_next (n := 300) (by omega) (by decide)
      have hm := h.many
      have hw6 : wrap64 (x6 + 1) = x6 + 1 := by unfold wrap64; omega
      have hs3 := h.s3
      have hs4 := h.s4
      have dn := dL_len n
      have di := dL_len i
      have bn := bts_size (dL n)
      have bi := bts_size (dL i)
      rw [hlen]
      refine Ev.pos rfl (Ev.pos (by omega) (Ev.pos (by omega) ?_))
      rw [hrd]
      refine Ev.bind (decimal_ev n (by omega)) (Ev.pos (by omega) (Ev.pos (by omega) ?_))
      rw [hwr, hw6]
      by_cases c0 : Go.bits .and .i64 (rd l0 (i : Int)) 3 = 0
      · refine Ev.pos c0 (Ev.pos (by omega) (Ev.bind (decimal_ev i (by omega)) (Ev.pos (by omega) (Ev.pos (by omega) (Ev.pos (by omega) (Ev.pos (by omega) (Ev.pos (by rw [List.length_append, List.length_singleton]; omega) ?_)))))))
        exact ih (i + 1) _ _ _ _ (by omega) (pr_u h (by omega) n hn)
      refine Ev.neg c0 ?_
      by_cases c1 : Go.bits .and .i64 (rd l0 (i : Int)) 3 = 1
      · refine Ev.pos c1 (Ev.pos (by omega) (Ev.bind (decimal_ev i (by omega)) (Ev.pos (by omega) (Ev.pos (by omega) (Ev.pos (by omega) ?_)))))
        exact ih (i + 1) _ _ _ _ (by omega) (pr_br h (by omega) n hn)
      refine Ev.neg c1 ?_
      by_cases c2 : Go.bits .and .i64 (rd l0 (i : Int)) 3 = 2
      · refine Ev.pos c2 (Ev.pos (by omega) (Ev.bind (decimal_ev i (by omega)) (Ev.pos (by omega) (Ev.pos (by omega) (Ev.pos (by omega) (Ev.pos (by omega) (Ev.bind (decimal_ev i (by omega)) (Ev.pos (by omega) (Ev.pos (by omega) ?_)))))))))
        exact ih (i + 1) _ _ _ _ (by omega) (pr_c h (by omega) n hn)
      refine Ev.neg c2 (Ev.pos (by omega) ?_)
      by_cases c3 : ((l ++ [v]).length : Int) > 1
      · refine Ev.pos c3 (Ev.bindC rfl (Ev.pos (by omega) (Ev.bindC rfl (Ev.pos (by simp; omega) ?_))))
        have e : (([] : List Int) ++ (l ++ [v]).take ((l.length : Int)).toNat) = l := by
          rw [List.nil_append, Int.toNat_natCast, List.take_left]
        rw [e]
        exact ih (i + 1) _ _ _ _ (by omega) (pr_e h (by omega) l (.inr ⟨fun e => by subst e; simp at c3, rfl⟩))
      · refine Ev.neg c3 ?_
        exact ih (i + 1) _ _ _ _ (by omega) (pr_e h (by omega) _ (.inl ⟨List.length_eq_zero_iff.1 (by omega), rfl⟩))
    · refine Ev.neg (by omega) ?_
      refine Ev.step (f := fun k => _) (fun k => by rw [stolelaw8_PageRows.j1]) ?_
      exact Ev.neg (by simp) hend
theorem pageRows_plain (l0 : List Int) (h0 : l0.length * 8 ≤ 140737488351232) : ∃ k, stolelaw8_PageRows.f k l0 = some true := by
  refine Ev.rounds ?_
  refine Ev.congr (f := fun k => _) (fun k => by rw [stolelaw8_PageRows.f]) ?_
  exact Ev.bind awake_ev (Ev.pos rfl (rows_go l0 30 0 _ _ _ _ rfl pr_start))
end Go.Proofs.YtfmcdlbbbmeolaaGreatDoor.P8
end
section
namespace Go.Proofs.YtfmcdlbbbmeolaaGreatDoorW.PrintWords
open Go.ChangeShapes Go.WideShapes
theorem sized_ints {H : Type} {enc : TypeId × Value → H} {P : Program} {W : World} {base : Nat} {spare : Nat → Bool} {held : Bool} {t e : TypeId} {k : IntKind} {a : Option Addr} {len cap : Nat} {d : DataW H} {ps : List MemPlace} {ts : List TypeId} {ds : List (DataW H)} {j : Nat}
    (hsz : (DataW.weightsEach P ts ds).all (· ≤ reachBytes) = true) (ht : ts[j]? = some t) (hd : ds[j]? = some d) (hu : P.underlying t = some (.slice e)) (he : P.underlying e = some (.int k)) (hc : P.cellsOf e = 1) {B : Nat} (hB : P.bytesOf e = B)
    (h : DataW.Trod enc P W base spare held t (.slice a len cap) d ps) : len * B ≤ 140737488351232 := by
  obtain ⟨fuel, hf⟩ := h
  rcases open_ints hu he hc hf with ⟨hcs, _⟩ | ⟨x, l, c, zs, hcs, _, hl, _, hz, hx, _, _⟩
  · simp [Value.cells] at hcs
    obtain ⟨rfl, rfl, rfl⟩ := hcs
    simp
  · simp [Value.cells] at hcs
    obtain ⟨rfl, rfl, rfl⟩ := hcs
    obtain ⟨hx, _⟩ := Prod.mk.inj hx
    subst hx
    have z := sized_slice hsz ht hd hu
    rw [hB] at z
    have hl2 : len ≤ zs.length := by
      rw [hz]
      split
      · exact hl
      · exact Nat.le_refl _
    have h1 : (lits (H := H) k (zs.take len)).length + (lits (H := H) k (zs.drop len)).length = zs.length := by
      simp [lits]
      omega
    rw [h1] at z
    exact Nat.le_trans (Nat.mul_le_mul_right _ hl2) z
end Go.Proofs.YtfmcdlbbbmeolaaGreatDoorW.PrintWords
end
section
namespace Go.Proofs.YtfmcdlbbbmeolaaGreatDoor.RowPageRows
open Go.ChangeShapes Go.WideShapes Go.ChangeAt Go.RowKit Go.Proofs.YtfmcdlbbbmeolaaGreatDoorW.PrintWords Go.Proofs.YtfmcdlbbbmeolaaGreatDoorW.PrintLast Go.Proofs.YtfmcdlbbbmeolaaGreatDoor.ExtP
open Go.ChangeMaps (open_string shut_string)
set_option linter.unusedVariables false
theorem own : ownKnob Tryz.prog.godebug = none := by kernel_rfl
theorem laidOut : laidOutB Tryz.prog = true := by kernel_rfl
def IsRow (k : IntKind) (w : World) (a : Option Addr) (len cap : Nat) (zs : List Int) : Prop :=
  (a = none ∧ len = 0 ∧ cap = 0 ∧ zs = []) ∨
  ∃ x, a = some x ∧ len ≤ cap ∧ cap ≤ maxLen ∧ zs.length = cap ∧ (∀ i, i < zs.length → w.cell? (x.add i) = some (.int k (zs.getD i 0))) ∧ ∀ n ∈ zs, (Lit.int k n).wf = true
set_option maxRecDepth 100000 in
set_option maxHeartbeats 4000000 in
theorem contract (H : Type) (enc : TypeId × Value → H) (W : World) (base : Nat) (args : Array Value) (ds gs : List (DataW H)) (before : List MemPlace)
    (hval0 : ∀ (j : Nat) t v, Tryz.f8.params[j]? = some t → args[j]? = some v → Value.okWide Tryz.prog W .any base t v)
    (hW : DataW.Whole enc Tryz.prog Tryz.f8.params.toList Rows.pageRowsSpec.vars false W args.toList ds gs before)
    (hsz0 : (DataW.weightsEach Tryz.prog (Tryz.f8.params.toList ++ Rows.pageRowsSpec.plain.varTypes Tryz.prog) (ds ++ gs)).all (· ≤ reachBytes) = true)
    (hL : laidMetH Tryz.prog Rows.pageRowsRow.laid W)
    (hsh : W.ShapedOpen Tryz.prog)
    : Calls Tryz.prog 8 args W fun e W' => ∃ v, e = .returned v ∧ Rows.pageRowsSpec.post enc Tryz.prog Tryz.f8 false true false false W args v W' := by
  have hsz : (DataW.weightsEach Tryz.prog (Tryz.f8.params.toList ++ Rows.pageRowsSpec.plain.varTypes Tryz.prog) (ds ++ gs)).all (· ≤ reachBytes) = true := hsz0
  have hval : ∀ (j : Nat) t v, Tryz.f8.params[j]? = some t → args[j]? = some v → Value.okWide Tryz.prog W .any base t v := hval0
  have hW' := hW
  obtain ⟨p, q, hA0, hV, rfl, hfz, hnd⟩ := hW
  have hA : DataW.TrodAll enc Tryz.prog W 0 (fun _ => true) true Tryz.f8.params.toList args.toList ds p := hA0
  rw [Tryz.params8] at hA hval hsz
  obtain ⟨v0, vs0, d0, ds0, p0, q0, hargs, rfl, rfl, h0, r0⟩ := trodAll_cons hA
  obtain ⟨rfl, rfl, rfl⟩ := trodAll_nil r0
  obtain rfl : args = #[v0] := by cases args; simp_all
  obtain ⟨rfl, rfl⟩ := trodVars_none hV
  obtain ⟨a0, len0, cap0, rfl⟩ := okWide_slice Tryz.underlying33 (hval 0 33 v0 rfl rfl)
  have k0 := h0
  have lt0 : ∀ x ∈ p0, x.block < W.heap.size := by obtain ⟨m, hm⟩ := k0; exact DataW.trod_lt m _ _ _ hm
  obtain ⟨z0, w0⟩ : ∃ zs, IsRow .i64 W a0 len0 cap0 zs := by
    obtain ⟨fuel, hf⟩ := h0
    rcases open_ints Tryz.underlying33 Tryz.underlying3 (by kernel_rfl) hf with ⟨hcs, _⟩ | ⟨x, l, c, zs, hcs, _, hl, hm, hz, _, hcell, hwz⟩
    · simp [Value.cells] at hcs
      obtain ⟨rfl, rfl, rfl⟩ := hcs
      exact ⟨[], .inl ⟨rfl, rfl, rfl, rfl⟩⟩
    · simp [Value.cells] at hcs
      obtain ⟨rfl, rfl, rfl⟩ := hcs
      exact ⟨zs, .inr ⟨_, rfl, hl, hm, by simpa using hz, hcell, hwz⟩⟩
  have y0 : len0 * 8 ≤ 140737488351232 := sized_ints hsz (j := 0) (t := 33) rfl rfl Tryz.underlying33 Tryz.underlying3 (by kernel_rfl) (by kernel_rfl) h0
  obtain ⟨l0, rfl, hr0, hm0, hw0, hc0⟩ := ReadsInt.ofRowC w0
  clear hA0 hval0 hsz0 hsz hval
  have hT : Tabs W := ⟨Tryz.laysM143.s1_3 W hsh, tabP_of_laid hL (by kernel_rfl) (by simp [Rows.pageRowsRow])⟩
  obtain ⟨k, hk⟩ := P8.pageRows_plain l0 y0
  refine (XP.stolelaw8_PageRows.calls k _ _ l0 true W hT (Kd.C_of_reads (d := (0 : Int)) (h1 := fun _ => rfl) hr0) hc0 hk rfl).mono fun e W' ⟨he, bel0⟩ => ?_
  have bel : Below W.heap.size W W' := bel0
  subst he
  simp only [List.append_nil] at hW'
  exact ⟨_, rfl, _, _, _, [], _, [], hW', trodAll_mk1 (shut_bool Tryz.underlying4 _), (trodAll_cons_mk (Below.trod laidOut (by kernel_rfl) (of_decide_eq_true (by kernel_rfl)) k0 bel lt0) trodAll_mk0), rfl, bel.frame _, fun h => by cases h⟩
theorem laid_met (os : Os) : laidMetH Tryz.prog Rows.pageRowsRow.laid ((World.laidAll Tryz.prog os Rows.pageRowsRow.laid).forCall (fun _ _ => 0) ⟨#[], #[.slice none 0 0], []⟩).memory := by
  rw [MakeChecks.laidMetH_plain _ _ _ (by kernel_rfl)]
  exact laidMet_laidAll _ (by kernel_rfl) (by kernel_rfl)
theorem reads (os : Os) {H : Type} (enc : TypeId × Value → H) : ∃ places, DataW.whole enc Tryz.prog ((World.laidAll Tryz.prog os Rows.pageRowsRow.laid).forCall (fun _ _ => 0) ⟨#[], #[.slice none 0 0], []⟩).memory Tryz.f8.params.toList Rows.pageRowsSpec.vars false (#[.slice none 0 0] : Array Value).toList 8 = some ([.nil], [], places) :=
  ⟨[], by kernel_rfl⟩
set_option maxRecDepth 100000 in
theorem lifted (os : Os) (started : os.Started) (H : Type) (enc : TypeId × Value → H) (F : Stop.Interp) :
    ReturnsInHanded {} Tryz.checked os 8 .any ((OpenSpec.ofChange Rows.pageRowsSpec).preRow enc Tryz.prog Tryz.f8 Rows.pageRowsRow.domain false Rows.pageRowsRow.laid) (((OpenSpec.ofChange Rows.pageRowsSpec).at F).post enc Tryz.prog Tryz.f8 false true false false) := by
  obtain ⟨places, hx⟩ := reads os enc
  refine returnsInHanded_of_row (C := Tryz.checked) (s := (OpenSpec.ofChange Rows.pageRowsSpec)) own started (by kernel_rfl) Tryz.func8
    (witness_row_at (enc := enc) (C := Tryz.checked) false (World.laidAll Tryz.prog os Rows.pageRowsRow.laid) #[.slice none 0 0] (World.laidAll_os _ _ _) (by kernel_rfl) (by kernel_rfl) (by kernel_rfl)
      (OpenSpec.preRow_of_cond 8 hx (by kernel_rfl) (fun k hk => by cases hk) (by kernel_rfl) (laid_met os))) ?_
  intro W base args ds gs before hval hW hcnd hcond hsz hL hsh _
  exact contract H enc W base args ds gs before hval hW hsz hL hsh
set_option maxRecDepth 100000 in
theorem c_laid : laidOutB Tryz.pinned.checked.prog = true := by kernel_rfl
set_option maxRecDepth 100000 in
theorem c_maps : mapsRowed Tryz.pinned.checked.prog = true := by kernel_rfl
set_option maxRecDepth 100000 in
theorem c_place : (Rows.pageRowsRow.inPlace == Tryz.pinned.checked.prog.inPlace 8) = true := by kernel_rfl
set_option maxRecDepth 100000 in
theorem c_unf : (Rows.pageRowsRow.unfollowed == Tryz.pinned.checked.prog.unfollowed 8) = true := by kernel_rfl
set_option maxRecDepth 100000 in
theorem c_rec : (Rows.pageRowsRow.recurses == Tryz.pinned.checked.prog.recurses 8) = true := by kernel_rfl
set_option maxRecDepth 100000 in
theorem c_named : (Rows.pageRowsRow.named == Tryz.pinned.checked.prog.varsNamed 8) = true := by kernel_rfl
set_option maxRecDepth 100000 in
theorem closed : joinedFacts Tryz.pinned.checked.prog 8 Tryz.f8 (OpenSpec.bare (OpenSpec.ofChange Rows.pageRowsSpec)) Rows.pageRowsRow = true := by
  unfold joinedFacts
  rw [c_laid, c_maps, c_place, c_unf, c_rec, c_named]
  kernel_rfl
theorem said : Rows.PageRowsSaid :=
  OpenClaim.holds_of_cond 8 Tryz.f8 rfl rfl rfl rfl rfl rfl rfl ⟨rfl, rfl, rfl, rfl, rfl⟩ rfl rfl rfl rfl rfl (by kernel_rfl) Tryz.func8 closed
    (of_decide_eq_true (by kernel_rfl)) (by unfold Func.isWrapper; first | (rw [if_pos (by decide +kernel)]; kernel_rfl) | (rw [if_neg (by decide +kernel)]; exact ⟨rfl, rfl⟩))
    (fun os started H enc _ F => by rw [OpenClaim.pre_eq_preRow]; exact lifted os started H enc F)
theorem plain (f : FuncId) (fn : Func) (hf : Tryz.pinned.checked.prog.funcNamed "stole/stolelaw8.PageRows" = some f) (hfn : Tryz.pinned.checked.prog.funcs[f]? = some fn) :
    true = Tryz.pinned.checked.prog.looks [] ∧ ∀ (j : Nat) t, fn.params[j]? = some t → Tryz.pinned.checked.prog.wantsStandIn t = false := by
  obtain rfl : f = 8 := Option.some.inj ((show Tryz.prog.funcNamed "stole/stolelaw8.PageRows" = some 8 by kernel_rfl).symm.trans hf) |>.symm
  obtain rfl : fn = Tryz.f8 := (Option.some.inj (Tryz.func8.symm.trans hfn)).symm
  refine ⟨by kernel_rfl, fun j t ht => ?_⟩
  rw [Tryz.params8] at ht
  have hm := Array.mem_of_getElem? ht
  have hall : (#[33] : Array TypeId).all (fun t => Tryz.prog.wantsStandIn t == false) = true := by kernel_rfl
  rw [Array.all_eq_true'] at hall
  exact eq_of_beq (hall t hm)
theorem proved : Rows.PageRowsCardSaid :=
  Claim7.holds_tied_plain_at .later [] _ _ _ _ said (fun _ h => by cases h) (by kernel_rfl) (fun _ h => by cases h) pageRows_row_tie rfl ⟨rfl, rfl⟩ (by kernel_rfl) rfl plain (by kernel_rfl)
end Go.Proofs.YtfmcdlbbbmeolaaGreatDoor.RowPageRows
namespace Go.Proofs.YtfmcdlbbbmeolaaGreatDoor
theorem pageRows_holds : Rows.PageRowsCardSaid := RowPageRows.proved
#print axioms pageRows_holds
end Go.Proofs.YtfmcdlbbbmeolaaGreatDoor
end
