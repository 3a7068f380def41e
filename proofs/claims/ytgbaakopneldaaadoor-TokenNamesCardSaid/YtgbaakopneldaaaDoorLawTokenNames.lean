/- The law stole/stolelaw5.TokenNames returns true at every input of its types, and its arguments read behind the call as before. The listed package-level variables are tied to the program's text. No further condition. TokenNames, plain. Laid by xprint.py, a program of this session over the kit's print: for each Go function one Lean function of the same answers, and the walk that shows it. -/
import Derived.Test.YtgbaakopneldaaaDoorM15
import Derived.Test.YtgbaakopneldaaaDoorM16
import Derived.Test.YtgbaakopneldaaaDoorM17
import Derived.Test.YtgbaakopneldaaaDoorCards
import Derived.Test.YtgbaakopneldaaaDoorTie
import Derived.Test.YtgbaakopneldaaaDoorM0
import Derived.Test.YtgbaakopneldaaaDoorM14
import Derived.WalkKit
import Derived.ProofKit
import Derived.OpenShut
import Derived.ShutString
import Derived.ChangeOld
import Derived.Below
import Derived.SizedLaws
import Derived.Deep.DeepHandedRow
import Derived.LaidMore
import Derived.Lay
import Derived.SevenTiedAt
section
namespace Go.Proofs.YtgbaakopneldaaaDoor.XL
open Go.RowKit Go.Proofs.YtgbaakopneldaaaDoor.ExtM Go.Proofs.YtgbaakopneldaaaDoor.XK Go.Proofs.YtgbaakopneldaaaDoorW.PrintWords Go.Proofs.YtgbaakopneldaaaDoorW.PrintLast Go.Proofs.YtgbaakopneldaaaDoorW.PrintMore
attribute [local go_sem] max2_int min2_int max_two min_two max_three min_three max_four min_four   -- for this text's walks alone
set_option linter.unusedVariables false
set_option linter.unusedSimpArgs false
/-! ### stolelaw5_TokenMany: function 8 -/
/-! ### stolelaw5_TokenNames: function 9 -/
mutual
def stolelaw5_TokenNames.l0 : Nat → Bool → Int → ByteArray → Int → Option (Bool)
 | 0, _, _, _, _ => none
 | k + 1, x1, x5, x6, x7 => if x7 < x5 then ((some (([(wrap64 (65 + (Int.tmod x7 26))) % 256] : List Int) : List Int)).bind fun y282 => (if x6.size + (strOfNums y282).size ≤ 9223372036854775807 then (stolelaw5_TokenNames.l0 k x1 x5 (x6 ++ (strOfNums y282)) (wrap64 (x7 + 1))) else (none))) else (stolelaw5_TokenNames.l1 k x1 x6 (⟨#[]⟩ : ByteArray) 0)
def stolelaw5_TokenNames.j2 : Nat → Bool → ByteArray → ByteArray → Option (Bool)
 | 0, _, _, _ => none
 | k + 1, x1, x6, x8 => if x1 = true then (if 2 + x6.size ≤ 9223372036854775807 then (if 2 + x6.size + 1 ≤ 9223372036854775807 then ((tok_Tokens.f (((⟨#[60, 47]⟩ : ByteArray) ++ x6) ++ (⟨#[62]⟩ : ByteArray))).bind fun bt288 => ((stolelaw0_Num.f bt288.2).bind fun t292 => (if t292 = 0 then ((stolelaw0_SameTokens.f bt288.1 (([(⟨2, x8, (⟨#[]⟩ : ByteArray), ([] : List (S47)), false⟩ : S30)] : List (S30)))).bind fun t296 => (some t296)) else (some false)))) else (none)) else (none)) else (if 1 + x6.size ≤ 9223372036854775807 then (if 1 + x6.size + 1 ≤ 9223372036854775807 then (if 1 + x6.size + 1 + x6.size ≤ 9223372036854775807 then (if 1 + x6.size + 1 + x6.size + 3 ≤ 9223372036854775807 then ((tok_Tokens.f (((((⟨#[60]⟩ : ByteArray) ++ x6) ++ (⟨#[32]⟩ : ByteArray)) ++ x6) ++ (⟨#[61, 49, 62]⟩ : ByteArray))).bind fun bt297 => ((stolelaw0_Num.f bt297.2).bind fun t301 => (if t301 = 0 then ((stolelaw0_SameTokens.f bt297.1 (([(⟨1, x8, (⟨#[]⟩ : ByteArray), (([(⟨x8, (⟨#[49]⟩ : ByteArray)⟩ : S47)] : List (S47))), false⟩ : S30)] : List (S30)))).bind fun t308 => (some t308)) else (some false)))) else (none)) else (none)) else (none)) else (none))
def stolelaw5_TokenNames.l1 : Nat → Bool → ByteArray → ByteArray → Int → Option (Bool)
 | 0, _, _, _, _ => none
 | k + 1, x1, x6, x8, x9 => if x9 < (x6.size : Int) then (if x9 < 32 then (if 0 ≤ x9 then ((some (([((bt x6 x9) + 32) % 256] : List Int) : List Int)).bind fun y285 => (if x8.size + (strOfNums y285).size ≤ 9223372036854775807 then (stolelaw5_TokenNames.l1 k x1 x6 (x8 ++ (strOfNums y285)) (wrap64 (x9 + 1))) else (none))) else (none)) else (stolelaw5_TokenNames.j2 k x1 x6 x8)) else (stolelaw5_TokenNames.j2 k x1 x6 x8)
end
def stolelaw5_TokenNames.f (k : Nat) (a0 : Int) (a1 : Bool) : Option (Bool) := (stolelaw5_awake.f k).bind fun t281 => (if t281 = true then (stolelaw5_TokenNames.l0 k a1 (wrap64 (1 + (Go.bits .and .i64 a0 63))) (⟨#[]⟩ : ByteArray) 0) else (some false))
theorem stolelaw5_TokenNames.mono_l : ∀ k, (∀ y0 y1 y2 y3, LeO (stolelaw5_TokenNames.l0 k y0 y1 y2 y3) (stolelaw5_TokenNames.l0 (k + 1) y0 y1 y2 y3)) ∧ (∀ y0 y1 y2, LeO (stolelaw5_TokenNames.j2 k y0 y1 y2) (stolelaw5_TokenNames.j2 (k + 1) y0 y1 y2)) ∧ (∀ y0 y1 y2 y3, LeO (stolelaw5_TokenNames.l1 k y0 y1 y2 y3) (stolelaw5_TokenNames.l1 (k + 1) y0 y1 y2 y3))
 | 0 => ⟨fun _ _ _ _ r h => by simp [stolelaw5_TokenNames.l0] at h, fun _ _ _ r h => by simp [stolelaw5_TokenNames.j2] at h, fun _ _ _ _ r h => by simp [stolelaw5_TokenNames.l1] at h⟩
 | k + 1 => by
  obtain ⟨ih0, ih1, ih2⟩ := stolelaw5_TokenNames.mono_l k
  refine ⟨?_, ?_, ?_⟩
  ·intro y0 y1 y2 y3
   unfold stolelaw5_TokenNames.l0
   repeat' first
   | (with_reducible exact ih0 _ _ _ _)
   | (with_reducible exact ih1 _ _ _)
   | (with_reducible exact ih2 _ _ _ _)
   | (with_reducible exact stolelaw5_awake.mono _)
   | (with_reducible exact LeO.refl _)
   | (with_reducible exact LeO.none _)
   | (with_reducible refine LeO.ite ?_ ?_)
   | (with_reducible refine LeO.bind ?_ (fun _ => ?_))
   | exact ih0 _ _ _ _
   | exact ih1 _ _ _
   | exact ih2 _ _ _ _
   | exact stolelaw5_awake.mono _
   | exact LeO.none _
   | refine LeO.ite ?_ ?_
   | refine LeO.bind ?_ (fun _ => ?_)
  ·intro y0 y1 y2
   unfold stolelaw5_TokenNames.j2
   repeat' first
   | (with_reducible exact ih0 _ _ _ _)
   | (with_reducible exact ih1 _ _ _)
   | (with_reducible exact ih2 _ _ _ _)
   | (with_reducible exact stolelaw5_awake.mono _)
   | (with_reducible exact LeO.refl _)
   | (with_reducible exact LeO.none _)
   | (with_reducible refine LeO.ite ?_ ?_)
   | (with_reducible refine LeO.bind ?_ (fun _ => ?_))
   | exact ih0 _ _ _ _
   | exact ih1 _ _ _
   | exact ih2 _ _ _ _
   | exact stolelaw5_awake.mono _
   | exact LeO.none _
   | refine LeO.ite ?_ ?_
   | refine LeO.bind ?_ (fun _ => ?_)
  ·intro y0 y1 y2 y3
   unfold stolelaw5_TokenNames.l1
   repeat' first
   | (with_reducible exact ih0 _ _ _ _)
   | (with_reducible exact ih1 _ _ _)
   | (with_reducible exact ih2 _ _ _ _)
   | (with_reducible exact stolelaw5_awake.mono _)
   | (with_reducible exact LeO.refl _)
   | (with_reducible exact LeO.none _)
   | (with_reducible refine LeO.ite ?_ ?_)
   | (with_reducible refine LeO.bind ?_ (fun _ => ?_))
   | exact ih0 _ _ _ _
   | exact ih1 _ _ _
   | exact ih2 _ _ _ _
   | exact stolelaw5_awake.mono _
   | exact LeO.none _
   | refine LeO.ite ?_ ?_
   | refine LeO.bind ?_ (fun _ => ?_)
theorem stolelaw5_TokenNames.mono : ∀ a0 a1 k, LeO (stolelaw5_TokenNames.f k a0 a1) (stolelaw5_TokenNames.f (k + 1) a0 a1) := by
 intro a0 a1 k
 obtain ⟨ih0, ih1, ih2⟩ := stolelaw5_TokenNames.mono_l k
 unfold stolelaw5_TokenNames.f
 repeat' first
   | (with_reducible exact ih0 _ _ _ _)
   | (with_reducible exact ih1 _ _ _)
   | (with_reducible exact ih2 _ _ _ _)
   | (with_reducible exact stolelaw5_awake.mono _)
   | (with_reducible exact LeO.refl _)
   | (with_reducible exact LeO.none _)
   | (with_reducible refine LeO.ite ?_ ?_)
   | (with_reducible refine LeO.bind ?_ (fun _ => ?_))
   | exact ih0 _ _ _ _
   | exact ih1 _ _ _
   | exact ih2 _ _ _ _
   | exact stolelaw5_awake.mono _
   | exact LeO.none _
   | refine LeO.ite ?_ ?_
   | refine LeO.bind ?_ (fun _ => ?_)
set_option maxHeartbeats 8000000 in
set_option maxRecDepth 100000 in
theorem stolelaw5_TokenNames.calls (k : Nat) (a0 : Int) (a1 : Bool) (r : Bool) (w : World) (hT : Tabs w) (h : stolelaw5_TokenNames.f k a0 a1 = some r) (hr : r = true) :
  Calls Tryd.prog 9 #[.int .i64 a0, .bool a1] w fun e w' => e = .returned (.bool r) ∧ Below w.heap.size w w' := by
 have hu30 := Tryd.underlying30
 have hu47 := Tryd.underlying47
 have HT := Aside0.mk hT
 clear hT
 have HB := Aside0.mk (Below.refl w.heap.size w)
 have H : ((stolelaw5_awake.f k).bind fun t281 => (if t281 = true then (stolelaw5_TokenNames.l0 k a1 (wrap64 (1 + (Go.bits .and .i64 a0 63))) (⟨#[]⟩ : ByteArray) 0) else (some false))) = some r := h
 clear h
 replace H := Option.bind_eq_some_iff.mp H
 obtain ⟨t281, A30, H⟩ := H
 replace H : (if t281 = true then (stolelaw5_TokenNames.l0 k a1 (wrap64 (1 + (Go.bits .and .i64 a0 63))) (⟨#[]⟩ : ByteArray) 0) else (some false)) = some r := H
 have A3 := Aside0.mk A30
 clear A30
 by_cases c4 : t281 = true
 ·subst c4
  have H1 : (stolelaw5_TokenNames.l0 k a1 (wrap64 (1 + (Go.bits .and .i64 a0 63))) (⟨#[]⟩ : ByteArray) 0) = some r := by rw [if_pos rfl] at H; exact H
  clear H
  have H := H1
  clear H1
  have H' := Aside0.mk H
  clear H
  go_enter Tryd.func9, Tryd.ntmps9
  go_wp2_with (first | ((with_reducible refine gate_callee (f := 10) rfl ?_); refine goesL_ (some 14) rfl rfl Tryd.func10 (by kernel_rfl) rfl #[] rfl (by (try simp only [List.map_toArray, List.map_cons, List.map_nil]); first | done | rfl | (simp only [List.length_drop, List.length_take]; rfl)) ?_; (with_reducible refine (stolelaw5_awake.calls k  true _ (tabs_below HT.out (by repeat (first | (with_reducible first | exact HB.out | apply below_alloc | apply pw_below_drewN | apply below_drew1) | exact HB.out))) A3.out rfl).mono ?_); rintro e w5 ⟨rfl, hb⟩; refine ⟨_, rfl, ?_⟩; have n0_ := Aside0.mk (below_step (by repeat (first | (with_reducible first | exact HB.out | apply below_alloc | apply pw_below_drewN | apply below_drew1) | exact HB.out)) hb); clear HB; have HB := n0_; clear n0_; (try clear hb); (try clear hb2); (try clear hk); (try clear hi)))
  go_loopg [6, 7] k (fun kq v6 v7 w' => ∃ (x6_1 : ByteArray) (x7_1 : Int), v6 = .string x6_1 ∧ v7 = .int .i64 x7_1 ∧ Aside0 (stolelaw5_TokenNames.l0 kq a1 (wrap64 (1 + (Go.bits .and .i64 a0 63))) x6_1 x7_1 = some r) ∧ Aside0 (kq ≤ k) ∧ Aside0 (Below w.heap.size w w'))
  case atStart => exact ⟨((⟨#[]⟩ : ByteArray)), (0), (by first | rfl | (simp; done) | (simp [*]; done)), (by first | rfl | (simp; done) | (simp [*]; done)), H', ⟨Nat.le_refl _⟩, ⟨by repeat (first | (with_reducible first | exact HB.out | apply below_alloc | apply pw_below_drewN | apply below_drew1) | exact HB.out)⟩⟩
  case round =>
   clear H'
   try clear c1
   try clear p2
   try clear c4
   obtain ⟨x6_1, x7_1, rfl, rfl, HA, HK1, HB⟩ := hrel
   cases gk with
   | zero => exact absurd HA.out (by simp [stolelaw5_TokenNames.l0])
   | succ k1 =>
    have H := HA.out
    clear HA
    simp only [stolelaw5_TokenNames.l0] at H
    by_cases c6 : x7_1 < (wrap64 (1 + (Go.bits .and .i64 a0 63)))
    ·rw [if_pos c6] at H
     have c6b0 : decide (x7_1 < (wrap64 (1 + (Go.bits .and .i64 a0 63)))) = true := decide_eq_true c6
     clear c6
     obtain ⟨y282, hy282⟩ : ∃ y_ : List Int, y_ = (([(wrap64 (65 + (Int.tmod x7_1 26))) % 256] : List Int)) := ⟨_, rfl⟩
     replace H : (if x6_1.size + (strOfNums y282).size ≤ 9223372036854775807 then (stolelaw5_TokenNames.l0 k1 a1 (wrap64 (1 + (Go.bits .and .i64 a0 63))) (x6_1 ++ (strOfNums y282)) (wrap64 (x7_1 + 1))) else (none)) = some r := by first | (rw [hy282]; with_reducible exact H) | (have H2_ := (Option.bind_some _ _).symm.trans H; rw [hy282]; with_reducible exact H2_) | (have H2_ := (Option.bind_some _ _).symm.trans H; with_reducible exact H2_) | with_reducible exact H | (rw [hy282]; exact H) | exact H
     have Ny282 := Aside0.mk hy282
     clear hy282
     by_cases c7 : x6_1.size + (strOfNums y282).size ≤ 9223372036854775807
     ·rw [if_pos c7] at H
      have c7b0 := eq_true c7
      have c7b1 : decide (x6_1.size + (strOfNums y282).size ≤ 9223372036854775807) = true := decide_eq_true c7
      try have c7b2 : (9223372036854775807 < x6_1.size + (strOfNums y282).size) = False := eq_false (Nat.not_lt.2 c7)
      have H' := Aside0.mk H
      clear H
      go_wp2_with (first | ((with_reducible refine gate_dst (N := 29) rfl ?_); (try (refine gate_guard (by rfl) ?_; dsimp only)); refine Kd.R_lit (Kd.int .u8) _ 5 ?hg (N := 29) ?hd (xs := ([(wrap64 (65 + (Int.tmod x7_1 26))) % 256] : List Int)) (inner := [.int .u8 ((wrap64 (65 + (Int.tmod x7_1 26))) % 256)]) (ok := fun _ => True) (okp := fun _ => True) ?hr ?hp (fun _ hk => hk) trivial (Below.refl _ _) (Nat.le_refl _) (by simp) ?_; (case hd => rfl); (case hg => rfl); (case hr => first | (go_simp; done) | (go_simp; rfl)); (case hp => exact (Reps.one (show Kd.M (Kd.int .u8) _ _ _ ((wrap64 (65 + (Int.tmod x7_1 26))) % 256) [.int .u8 ((wrap64 (65 + (Int.tmod x7_1 26))) % 256)] from rfl) (Reps.none _ _))); intro v283 w8 ho9 hb hg_ hnew_; clear hg_ hnew_; (first | rw [← Ny282.out] at ho9 | (simp only [Int.reduceToNat] at ho9; rw [← Ny282.out] at ho9)); have n0_ := Aside0.mk (Kd.R_lower ho9 (below_size (by repeat (first | (with_reducible first | exact HB.out | apply below_alloc | apply pw_below_drewN | apply below_drew1) | exact HB.out)))); have n1_ := Aside0.mk (below_step (by repeat (first | (with_reducible first | exact HB.out | apply below_alloc | apply pw_below_drewN | apply below_drew1) | exact HB.out)) hb); clear HB; have HO284 := n0_; have HB := n1_; clear n0_ n1_; clear hb ho9; have hcv10 := own_string (P := Tryd.prog) Tryd.underlying42 Tryd.underlying5 Tryd.underlying9 (Kd.own_of_R HO284.out)))
      go_roundg k1
      case measure => have := HK1.out; omega
      case rel => exact ⟨(x6_1 ++ (strOfNums y282)), (wrap64 (x7_1 + 1)), (by first | rfl | (simp; done) | (simp [*]; done)), (by first | rfl | (simp; done) | (simp [*]; done)), H', ⟨by have := HK1.out; omega⟩, ⟨by repeat (first | (with_reducible first | exact HB.out | apply below_alloc | apply pw_below_drewN | apply below_drew1) | exact HB.out)⟩⟩
     ·rw [if_neg c7] at H
      exact absurd H (by simp)
    ·rw [if_neg c6] at H
     have c6b0 : decide (x7_1 < (wrap64 (1 + (Go.bits .and .i64 a0 63)))) = false := decide_eq_false c6
     clear c6
     have HC11 := Aside0.mk H
     clear H
     go_upto_block 2 with (fail)
     go_cut [8] (fun v8 wc => ∃ (kq : Nat) (x8_10 : ByteArray), v8 = .string x8_10 ∧ Aside0 (stolelaw5_TokenNames.j2 kq a1 x6_1 x8_10 = some r) ∧ Aside0 (kq ≤ k1) ∧ Aside0 (Below w.heap.size w wc))
     case first =>
      have H := HC11.out
      clear HC11
      have H' := Aside0.mk H
      clear H
      go_wp2
      go_loopg [8, 9] k1 (fun kq v8 v9 w' => ∃ (x8_2 : ByteArray) (x9_2 : Int), v8 = .string x8_2 ∧ v9 = .int .i64 x9_2 ∧ Aside0 (stolelaw5_TokenNames.l1 kq a1 x6_1 x8_2 x9_2 = some r) ∧ Aside0 (kq ≤ k1) ∧ Aside0 (Below w.heap.size w w'))
      case atStart => exact ⟨((⟨#[]⟩ : ByteArray)), (0), (by first | rfl | (simp; done) | (simp [*]; done)), (by first | rfl | (simp; done) | (simp [*]; done)), H', ⟨Nat.le_refl _⟩, ⟨by repeat (first | (with_reducible first | exact HB.out | apply below_alloc | apply pw_below_drewN | apply below_drew1) | exact HB.out)⟩⟩
      case round =>
       clear H'
       try clear c1
       try clear hcv1
       try clear p2
       try clear c4
       try clear c6
       try clear c6b0
       try clear p6
       try clear c7
       try clear c7b0
       try clear c7b1
       try clear c7b2
       try clear c9
       try clear c10
       try clear hcv10
       try clear p2
       obtain ⟨x8_2, x9_2, rfl, rfl, HA, HK2, HB⟩ := hrel
       cases gk with
       | zero => exact absurd HA.out (by simp [stolelaw5_TokenNames.l1])
       | succ k2 =>
        have H := HA.out
        clear HA
        simp only [stolelaw5_TokenNames.l1] at H
        by_cases c12 : x9_2 < (x6_1.size : Int)
        ·rw [if_pos c12] at H
         have c12b0 : decide (x9_2 < (x6_1.size : Int)) = true := decide_eq_true c12
         clear c12
         (first | rw [c12b0] | (simp only [i64_w, i32_w]; rw [c12b0]) | skip)
         by_cases c13 : x9_2 < 32
         ·rw [if_pos c13] at H
          have c13b0 : decide (x9_2 < 32) = true := decide_eq_true c13
          clear c13
          by_cases c14 : 0 ≤ x9_2
          ·rw [if_pos c14] at H
           have c14b0 : decide (0 ≤ x9_2) = true := decide_eq_true c14
           clear c14
           obtain ⟨y285, hy285⟩ : ∃ y_ : List Int, y_ = (([((bt x6_1 x9_2) + 32) % 256] : List Int)) := ⟨_, rfl⟩
           replace H : (if x8_2.size + (strOfNums y285).size ≤ 9223372036854775807 then (stolelaw5_TokenNames.l1 k2 a1 x6_1 (x8_2 ++ (strOfNums y285)) (wrap64 (x9_2 + 1))) else (none)) = some r := by first | (rw [hy285]; with_reducible exact H) | (have H2_ := (Option.bind_some _ _).symm.trans H; rw [hy285]; with_reducible exact H2_) | (have H2_ := (Option.bind_some _ _).symm.trans H; with_reducible exact H2_) | with_reducible exact H | (rw [hy285]; exact H) | exact H
           have Ny285 := Aside0.mk hy285
           clear hy285
           by_cases c16 : x8_2.size + (strOfNums y285).size ≤ 9223372036854775807
           ·rw [if_pos c16] at H
            have c16b0 := eq_true c16
            have c16b1 : decide (x8_2.size + (strOfNums y285).size ≤ 9223372036854775807) = true := decide_eq_true c16
            try have c16b2 : (9223372036854775807 < x8_2.size + (strOfNums y285).size) = False := eq_false (Nat.not_lt.2 c16)
            have H' := Aside0.mk H
            clear H
            have p15 : 0 ≤ (x9_2 : Int) := of_decide_eq_true (by first | (with_reducible assumption) | assumption)
            have q15 : x9_2 < (x6_1.size : Int) := of_decide_eq_true (by first | (with_reducible assumption) | assumption)
            have hx15 := bt_at x6_1 x9_2
            replace p15 := eq_true p15
            replace q15 := eq_true q15
            go_wp2_with (first | ((with_reducible refine gate_dst (N := 47) rfl ?_); (try (refine gate_guard (by rfl) ?_; dsimp only)); refine Kd.R_lit (Kd.int .u8) _ 5 ?hg (N := 47) ?hd (xs := ([((bt x6_1 x9_2) + 32) % 256] : List Int)) (inner := [.int .u8 (((bt x6_1 x9_2) + 32) % 256)]) (ok := fun _ => True) (okp := fun _ => True) ?hr ?hp (fun _ hk => hk) trivial (Below.refl _ _) (Nat.le_refl _) (by simp) ?_; (case hd => rfl); (case hg => rfl); (case hr => first | (go_simp; done) | (go_simp; rfl)); (case hp => exact (Reps.one (show Kd.M (Kd.int .u8) _ _ _ (((bt x6_1 x9_2) + 32) % 256) [.int .u8 (((bt x6_1 x9_2) + 32) % 256)] from rfl) (Reps.none _ _))); intro v286 w17 ho18 hb hg_ hnew_; clear hg_ hnew_; (first | rw [← Ny285.out] at ho18 | (simp only [Int.reduceToNat] at ho18; rw [← Ny285.out] at ho18)); have n0_ := Aside0.mk (Kd.R_lower ho18 (below_size (by repeat (first | (with_reducible first | exact HB.out | apply below_alloc | apply pw_below_drewN | apply below_drew1) | exact HB.out)))); have n1_ := Aside0.mk (below_step (by repeat (first | (with_reducible first | exact HB.out | apply below_alloc | apply pw_below_drewN | apply below_drew1) | exact HB.out)) hb); clear HB; have HO287 := n0_; have HB := n1_; clear n0_ n1_; clear hb ho18; have hcv19 := own_string (P := Tryd.prog) Tryd.underlying42 Tryd.underlying5 Tryd.underlying9 (Kd.own_of_R HO287.out)))
            go_roundg k2
            case measure => have := HK1.out; have := HK2.out; omega
            case rel => exact ⟨(x8_2 ++ (strOfNums y285)), (wrap64 (x9_2 + 1)), (by first | rfl | (simp; done) | (simp [*]; done)), (by first | rfl | (simp; done) | (simp [*]; done)), H', ⟨by have := HK1.out; have := HK2.out; omega⟩, ⟨by repeat (first | (with_reducible first | exact HB.out | apply below_alloc | apply pw_below_drewN | apply below_drew1) | exact HB.out)⟩⟩
           ·rw [if_neg c16] at H
            exact absurd H (by simp)
          ·rw [if_neg c14] at H
           exact absurd H (by simp)
         ·rw [if_neg c13] at H
          have c13b0 : decide (x9_2 < 32) = false := decide_eq_false c13
          clear c13
          have H' := Aside0.mk H
          clear H
          go_wp2
          go_meet
          case rel => exact ⟨_, (x8_2), (by first | rfl | (simp; done) | (simp [*]; done)), H', ⟨by have := HK1.out; have := HK2.out; first | omega | exact Nat.le_refl _⟩, ⟨by repeat (first | (with_reducible first | exact HB.out | apply below_alloc | apply pw_below_drewN | apply below_drew1) | exact HB.out)⟩⟩
        ·rw [if_neg c12] at H
         have c12b0 : decide (x9_2 < (x6_1.size : Int)) = false := decide_eq_false c12
         clear c12
         (first | rw [c12b0] | (simp only [i64_w, i32_w]; rw [c12b0]) | skip)
         have H' := Aside0.mk H
         clear H
         go_wp2
         go_meet
         case rel => exact ⟨_, (x8_2), (by first | rfl | (simp; done) | (simp [*]; done)), H', ⟨by have := HK1.out; have := HK2.out; first | omega | exact Nat.le_refl _⟩, ⟨by repeat (first | (with_reducible first | exact HB.out | apply below_alloc | apply pw_below_drewN | apply below_drew1) | exact HB.out)⟩⟩
     case rest =>
      clear HC11
      try clear c1
      try clear p1
      try clear q1
      try clear hx1
      try clear hcv1
      try clear p2
      try clear c4
      try clear c6
      try clear c6b0
      try clear p6
      try clear c7
      try clear c7b0
      try clear c7b1
      try clear c7b2
      try clear c9
      try clear c10
      try clear hcv10
      try clear c12
      try clear c12b0
      try clear c13
      try clear c13b0
      try clear c14
      try clear c14b0
      try clear p15
      try clear q15
      try clear hx15
      try clear c16
      try clear c16b0
      try clear c16b1
      try clear c16b2
      try clear hcv19
      try clear p15
      try clear p2
      try clear p6
      try clear q15
      obtain ⟨kq, x8_10, rfl, HA, HJ10, HB⟩ := hcut
      cases kq with
      | zero => exact absurd HA.out (by simp [stolelaw5_TokenNames.j2])
      | succ kj10 =>
       have H := HA.out
       clear HA
       simp only [stolelaw5_TokenNames.j2] at H
       by_cases c20 : a1 = true
       ·subst c20
        have H1 : (if 2 + x6_1.size ≤ 9223372036854775807 then (if 2 + x6_1.size + 1 ≤ 9223372036854775807 then ((tok_Tokens.f (((⟨#[60, 47]⟩ : ByteArray) ++ x6_1) ++ (⟨#[62]⟩ : ByteArray))).bind fun bt288 => ((stolelaw0_Num.f bt288.2).bind fun t292 => (if t292 = 0 then ((stolelaw0_SameTokens.f bt288.1 (([(⟨2, x8_10, (⟨#[]⟩ : ByteArray), ([] : List (S47)), false⟩ : S30)] : List (S30)))).bind fun t296 => (some t296)) else (some false)))) else (none)) else (none)) = some r := by rw [if_pos rfl] at H; exact H
        clear H
        have H := H1
        clear H1
        by_cases c21 : 2 + x6_1.size ≤ 9223372036854775807
        ·rw [if_pos c21] at H
         have c21b0 := eq_true c21
         have c21b1 : decide (2 + x6_1.size ≤ 9223372036854775807) = true := decide_eq_true c21
         try have c21b2 : (9223372036854775807 < 2 + x6_1.size) = False := eq_false (Nat.not_lt.2 c21)
         by_cases c22 : 2 + x6_1.size + 1 ≤ 9223372036854775807
         ·rw [if_pos c22] at H
          have c22b0 := eq_true c22
          have c22b1 : decide (2 + x6_1.size + 1 ≤ 9223372036854775807) = true := decide_eq_true c22
          try have c22b2 : (9223372036854775807 < 2 + x6_1.size + 1) = False := eq_false (Nat.not_lt.2 c22)
          replace H := Option.bind_eq_some_iff.mp H
          obtain ⟨⟨t288, t289⟩, A230, H⟩ := H
          replace H : ((stolelaw0_Num.f t289).bind fun t292 => (if t292 = 0 then ((stolelaw0_SameTokens.f t288 (([(⟨2, x8_10, (⟨#[]⟩ : ByteArray), ([] : List (S47)), false⟩ : S30)] : List (S30)))).bind fun t296 => (some t296)) else (some false))) = some r := H
          have A23 := Aside0.mk A230
          clear A230
          replace H := Option.bind_eq_some_iff.mp H
          obtain ⟨t292, A240, H⟩ := H
          replace H : (if t292 = 0 then ((stolelaw0_SameTokens.f t288 (([(⟨2, x8_10, (⟨#[]⟩ : ByteArray), ([] : List (S47)), false⟩ : S30)] : List (S30)))).bind fun t296 => (some t296)) else (some false)) = some r := H
          have A24 := Aside0.mk A240
          clear A240
          by_cases c25 : t292 = 0
          ·rw [if_pos c25] at H
           have c25b0 : (t292 == 0) = true := beq_iff_eq.mpr c25
           have c25b1 : (t292 != 0) = false := bne_eq_false_iff_eq.mpr c25
           clear c25
           obtain ⟨y293, hy293⟩ : ∃ y_ : List (S30), y_ = (([(⟨2, x8_10, (⟨#[]⟩ : ByteArray), ([] : List (S47)), false⟩ : S30)] : List (S30))) := ⟨_, rfl⟩
           replace H : ((stolelaw0_SameTokens.f t288 y293).bind fun t296 => (some t296)) = some r := by first | (rw [hy293]; with_reducible exact H) | (have H2_ := (Option.bind_some _ _).symm.trans H; rw [hy293]; with_reducible exact H2_) | (have H2_ := (Option.bind_some _ _).symm.trans H; with_reducible exact H2_) | with_reducible exact H | (rw [hy293]; exact H) | exact H
           have Ny293 := Aside0.mk hy293
           clear hy293
           replace H := Option.bind_eq_some_iff.mp H
           obtain ⟨t296, A260, H⟩ := H
           replace H : (some t296) = some r := H
           have A26 := Aside0.mk A260
           clear A260
           obtain rfl := Option.some.inj H
           go_wp2_with (first | ((with_reducible refine gate_callee (f := 11) rfl ?_); refine goesL_ (some 55) rfl rfl Tryd.func11 (by kernel_rfl) rfl #[.string (((⟨#[60, 47]⟩ : ByteArray) ++ x6_1) ++ (⟨#[62]⟩ : ByteArray))] rfl (by (try simp only [List.map_toArray, List.map_cons, List.map_nil]); first | done | rfl | (simp only [List.length_drop, List.length_take]; rfl)) ?_; (with_reducible refine (tok_Tokens.calls (((⟨#[60, 47]⟩ : ByteArray) ++ x6_1) ++ (⟨#[62]⟩ : ByteArray)) t288 t289 _ (tabs_below HT.out (by repeat (first | (with_reducible first | exact HB.out | apply below_alloc | apply pw_below_drewN | apply below_drew1) | exact HB.out))) A23.out).mono ?_); rintro e w27 ⟨v290, rfl, ho0, hb⟩; refine ⟨_, rfl, ?_⟩; have n0_ := Aside0.mk (Kd.N_lower (Kd.N_mono (ok' := fun k_ => True) (Kd.S_N (Kd.S_bound ho0)) (fun k_ hk_ => trivial)) (below_size (by repeat (first | (with_reducible first | exact HB.out | apply below_alloc | apply pw_below_drewN | apply below_drew1) | exact HB.out)))); have n1_ := Aside0.mk (below_step (by repeat (first | (with_reducible first | exact HB.out | apply below_alloc | apply pw_below_drewN | apply below_drew1) | exact HB.out)) hb); clear HB; have HO291 := n0_; have HB := n1_; clear n0_ n1_; (try clear hb); (try clear hb2); (try clear hk); (try clear hi); (try clear ho0)) | ((with_reducible refine gate_callee (f := 12) rfl ?_); refine goesL_ (some 59) rfl rfl Tryd.func12 (by kernel_rfl) rfl #[.int .i64 t289] rfl (by (try simp only [List.map_toArray, List.map_cons, List.map_nil]); first | done | rfl | (simp only [List.length_drop, List.length_take]; rfl)) ?_; (with_reducible refine (stolelaw0_Num.calls t289 t292 _ A24.out).mono ?_); rintro e w' ⟨rfl, ⟨nd, rfl⟩⟩; refine ⟨_, rfl, ?_⟩) | ((with_reducible refine gate_dst (N := 65) rfl ?_); (try (refine gate_guard (by rfl) ?_; dsimp only)); refine Kd.N_lit k30 _ 30 ?hg (N' := 65) ?hd (xs := ([(⟨2, x8_10, (⟨#[]⟩ : ByteArray), ([] : List (S47)), false⟩ : S30)] : List (S30))) (inner := [.int .i64 2, .string x8_10, .string (⟨#[]⟩ : ByteArray), .slice none 0 0, .bool false]) (ok := (fun k_ => some k_ ≠ (v290 : Value).ownBlock)) (okp := (fun k_ => some k_ ≠ (v290 : Value).ownBlock)) ?hr ?hp (fun _ hk => hk) ((show ∀ k_, w27.heap.size ≤ k_ → (fun k_ => some k_ ≠ (v290 : Value).ownBlock) k_ from fun k_ hk => Kd.fresh' (Kd.N_lt (by (with_reducible repeat (first | apply Kd.N_alloc | apply Kd.N_drewN | apply Kd.N_drew)); exact HO291.out)) k_ hk) _ (Nat.le_refl _)) (Below.refl _ _) (Nat.le_refl _) (by simp) ?_; (case hd => rfl); (case hg => rfl); (case hr => first | (go_simp; done) | (go_simp; rfl)); (case hp => exact (Reps.c5 (show Kd.FK k30 _ _ (⟨2, x8_10, (⟨#[]⟩ : ByteArray), ([] : List (S47)), false⟩ : S30) [.int .i64 2, .string x8_10, .string (⟨#[]⟩ : ByteArray), .slice none 0 0, .bool false] from (k30_mkF _ _ (⟨2, x8_10, (⟨#[]⟩ : ByteArray), ([] : List (S47)), false⟩ : S30) (Nat.le_refl _) (Kd.F_nil _ _ _))) (Reps.none _ _))); intro v294 w28 ho29 hb hg_ hnew_; clear hg_ hnew_; (first | rw [← Ny293.out] at ho29 | (simp only [Int.reduceToNat] at ho29; rw [← Ny293.out] at ho29)); have n0_ := Aside0.mk (Kd.N_elder' (by (with_reducible repeat (first | apply Kd.N_alloc | apply Kd.N_drewN | apply Kd.N_drew)); exact HO291.out) (Kd.N_base ho29) hb); have n1_ := Aside0.mk (Kd.N_lower ho29 (below_size (by repeat (first | (with_reducible first | exact HB.out | apply below_alloc | apply pw_below_drewN | apply below_drew1) | exact HB.out)))); have n2_ := Aside0.mk (below_step (by repeat (first | (with_reducible first | exact HB.out | apply below_alloc | apply pw_below_drewN | apply below_drew1) | exact HB.out)) hb); clear HO291; clear HB; have HO291 := n0_; have HO295 := n1_; have HB := n2_; clear n0_ n1_ n2_; clear hb ho29; obtain ⟨Ao30, co30, eo30⟩ := Kd.N_slice HO291.out; subst eo30; obtain ⟨Ao31, co31, eo31⟩ := Kd.N_slice HO295.out; subst eo31) | (go_at_call 14; (with_reducible refine (stolelaw0_SameTokens.calls _ _ t288 _ _ y293 t296 _ ?side1 ?side2 ?side3 ?side4 A26.out).mono ?_); (case side1 => repeat (first | exact (Kd.N_reads' HO291.out).2.2 | (with_reducible refine Kd.C_alloc ?_ _) | (with_reducible refine Kd.C_drewN ?_ _) | (with_reducible refine Kd.C_drew ?_))); (case side2 => exact (Kd.N_reads' HO291.out).2.1); (case side3 => repeat (first | exact (Kd.N_reads' HO295.out).2.2 | (with_reducible refine Kd.C_alloc ?_ _) | (with_reducible refine Kd.C_drewN ?_ _) | (with_reducible refine Kd.C_drew ?_))); (case side4 => exact (Kd.N_reads' HO295.out).2.1); rintro e w' ⟨rfl, ⟨nd, rfl⟩⟩))
           go_ret
           exact ⟨by first | rfl | (simp [errW_none, errW_some] <;> rfl) | (simp [*, errW_none, errW_some] <;> rfl), by repeat (first | (with_reducible first | exact HB.out | apply below_alloc | apply pw_below_drewN | apply below_drew1) | exact HB.out)⟩
          ·rw [if_neg c25] at H
           have c25b0 : (t292 == 0) = false := beq_eq_false_iff_ne.mpr c25
           have c25b1 : (t292 != 0) = true := bne_iff_ne.mpr c25
           obtain rfl := Option.some.inj H
           exact absurd hr (by simp)
         ·rw [if_neg c22] at H
          exact absurd H (by simp)
        ·rw [if_neg c21] at H
         exact absurd H (by simp)
       ·replace c20 := Bool.eq_false_iff.mpr c20
        subst c20
        have H1 : (if 1 + x6_1.size ≤ 9223372036854775807 then (if 1 + x6_1.size + 1 ≤ 9223372036854775807 then (if 1 + x6_1.size + 1 + x6_1.size ≤ 9223372036854775807 then (if 1 + x6_1.size + 1 + x6_1.size + 3 ≤ 9223372036854775807 then ((tok_Tokens.f (((((⟨#[60]⟩ : ByteArray) ++ x6_1) ++ (⟨#[32]⟩ : ByteArray)) ++ x6_1) ++ (⟨#[61, 49, 62]⟩ : ByteArray))).bind fun bt297 => ((stolelaw0_Num.f bt297.2).bind fun t301 => (if t301 = 0 then ((stolelaw0_SameTokens.f bt297.1 (([(⟨1, x8_10, (⟨#[]⟩ : ByteArray), (([(⟨x8_10, (⟨#[49]⟩ : ByteArray)⟩ : S47)] : List (S47))), false⟩ : S30)] : List (S30)))).bind fun t308 => (some t308)) else (some false)))) else (none)) else (none)) else (none)) else (none)) = some r := by rw [if_neg (show ¬ (false = true) by decide)] at H; exact H
        clear H
        have H := H1
        clear H1
        by_cases c33 : 1 + x6_1.size ≤ 9223372036854775807
        ·rw [if_pos c33] at H
         have c33b0 := eq_true c33
         have c33b1 : decide (1 + x6_1.size ≤ 9223372036854775807) = true := decide_eq_true c33
         try have c33b2 : (9223372036854775807 < 1 + x6_1.size) = False := eq_false (Nat.not_lt.2 c33)
         by_cases c34 : 1 + x6_1.size + 1 ≤ 9223372036854775807
         ·rw [if_pos c34] at H
          have c34b0 := eq_true c34
          have c34b1 : decide (1 + x6_1.size + 1 ≤ 9223372036854775807) = true := decide_eq_true c34
          try have c34b2 : (9223372036854775807 < 1 + x6_1.size + 1) = False := eq_false (Nat.not_lt.2 c34)
          by_cases c35 : 1 + x6_1.size + 1 + x6_1.size ≤ 9223372036854775807
          ·rw [if_pos c35] at H
           have c35b0 := eq_true c35
           have c35b1 : decide (1 + x6_1.size + 1 + x6_1.size ≤ 9223372036854775807) = true := decide_eq_true c35
           try have c35b2 : (9223372036854775807 < 1 + x6_1.size + 1 + x6_1.size) = False := eq_false (Nat.not_lt.2 c35)
           by_cases c36 : 1 + x6_1.size + 1 + x6_1.size + 3 ≤ 9223372036854775807
           ·rw [if_pos c36] at H
            have c36b0 := eq_true c36
            have c36b1 : decide (1 + x6_1.size + 1 + x6_1.size + 3 ≤ 9223372036854775807) = true := decide_eq_true c36
            try have c36b2 : (9223372036854775807 < 1 + x6_1.size + 1 + x6_1.size + 3) = False := eq_false (Nat.not_lt.2 c36)
            replace H := Option.bind_eq_some_iff.mp H
            obtain ⟨⟨t297, t298⟩, A370, H⟩ := H
            replace H : ((stolelaw0_Num.f t298).bind fun t301 => (if t301 = 0 then ((stolelaw0_SameTokens.f t297 (([(⟨1, x8_10, (⟨#[]⟩ : ByteArray), (([(⟨x8_10, (⟨#[49]⟩ : ByteArray)⟩ : S47)] : List (S47))), false⟩ : S30)] : List (S30)))).bind fun t308 => (some t308)) else (some false))) = some r := H
            have A37 := Aside0.mk A370
            clear A370
            replace H := Option.bind_eq_some_iff.mp H
            obtain ⟨t301, A380, H⟩ := H
            replace H : (if t301 = 0 then ((stolelaw0_SameTokens.f t297 (([(⟨1, x8_10, (⟨#[]⟩ : ByteArray), (([(⟨x8_10, (⟨#[49]⟩ : ByteArray)⟩ : S47)] : List (S47))), false⟩ : S30)] : List (S30)))).bind fun t308 => (some t308)) else (some false)) = some r := H
            have A38 := Aside0.mk A380
            clear A380
            by_cases c39 : t301 = 0
            ·rw [if_pos c39] at H
             have c39b0 : (t301 == 0) = true := beq_iff_eq.mpr c39
             have c39b1 : (t301 != 0) = false := bne_eq_false_iff_eq.mpr c39
             clear c39
             obtain ⟨y302, hy302⟩ : ∃ y_ : List (S47), y_ = (([(⟨x8_10, (⟨#[49]⟩ : ByteArray)⟩ : S47)] : List (S47))) := ⟨_, rfl⟩
             replace H : ((stolelaw0_SameTokens.f t297 (([(⟨1, x8_10, (⟨#[]⟩ : ByteArray), y302, false⟩ : S30)] : List (S30)))).bind fun t308 => (some t308)) = some r := by first | (rw [hy302]; with_reducible exact H) | (have H2_ := (Option.bind_some _ _).symm.trans H; rw [hy302]; with_reducible exact H2_) | (have H2_ := (Option.bind_some _ _).symm.trans H; with_reducible exact H2_) | with_reducible exact H | (rw [hy302]; exact H) | exact H
             have Ny302 := Aside0.mk hy302
             clear hy302
             obtain ⟨y305, hy305⟩ : ∃ y_ : List (S30), y_ = (([(⟨1, x8_10, (⟨#[]⟩ : ByteArray), y302, false⟩ : S30)] : List (S30))) := ⟨_, rfl⟩
             replace H : ((stolelaw0_SameTokens.f t297 y305).bind fun t308 => (some t308)) = some r := by first | (rw [hy305]; with_reducible exact H) | (have H2_ := (Option.bind_some _ _).symm.trans H; rw [hy305]; with_reducible exact H2_) | (have H2_ := (Option.bind_some _ _).symm.trans H; with_reducible exact H2_) | with_reducible exact H | (rw [hy305]; exact H) | exact H
             have Ny305 := Aside0.mk hy305
             clear hy305
             replace H := Option.bind_eq_some_iff.mp H
             obtain ⟨t308, A400, H⟩ := H
             replace H : (some t308) = some r := H
             have A40 := Aside0.mk A400
             clear A400
             obtain rfl := Option.some.inj H
             go_wp2_with (first | ((with_reducible refine gate_callee (f := 11) rfl ?_); refine goesL_ (some 75) rfl rfl Tryd.func11 (by kernel_rfl) rfl #[.string (((((⟨#[60]⟩ : ByteArray) ++ x6_1) ++ (⟨#[32]⟩ : ByteArray)) ++ x6_1) ++ (⟨#[61, 49, 62]⟩ : ByteArray))] rfl (by (try simp only [List.map_toArray, List.map_cons, List.map_nil]); first | done | rfl | (simp only [List.length_drop, List.length_take]; rfl)) ?_; (with_reducible refine (tok_Tokens.calls (((((⟨#[60]⟩ : ByteArray) ++ x6_1) ++ (⟨#[32]⟩ : ByteArray)) ++ x6_1) ++ (⟨#[61, 49, 62]⟩ : ByteArray)) t297 t298 _ (tabs_below HT.out (by repeat (first | (with_reducible first | exact HB.out | apply below_alloc | apply pw_below_drewN | apply below_drew1) | exact HB.out))) A37.out).mono ?_); rintro e w41 ⟨v299, rfl, ho0, hb⟩; refine ⟨_, rfl, ?_⟩; have n0_ := Aside0.mk (Kd.N_lower (Kd.N_mono (ok' := fun k_ => True) (Kd.S_N (Kd.S_bound ho0)) (fun k_ hk_ => trivial)) (below_size (by repeat (first | (with_reducible first | exact HB.out | apply below_alloc | apply pw_below_drewN | apply below_drew1) | exact HB.out)))); have n1_ := Aside0.mk (below_step (by repeat (first | (with_reducible first | exact HB.out | apply below_alloc | apply pw_below_drewN | apply below_drew1) | exact HB.out)) hb); clear HB; have HO300 := n0_; have HB := n1_; clear n0_ n1_; (try clear hb); (try clear hb2); (try clear hk); (try clear hi); (try clear ho0)) | ((with_reducible refine gate_callee (f := 12) rfl ?_); refine goesL_ (some 79) rfl rfl Tryd.func12 (by kernel_rfl) rfl #[.int .i64 t298] rfl (by (try simp only [List.map_toArray, List.map_cons, List.map_nil]); first | done | rfl | (simp only [List.length_drop, List.length_take]; rfl)) ?_; (with_reducible refine (stolelaw0_Num.calls t298 t301 _ A38.out).mono ?_); rintro e w' ⟨rfl, ⟨nd, rfl⟩⟩; refine ⟨_, rfl, ?_⟩) | ((with_reducible refine gate_dst (N := 86) rfl ?_); (try (refine gate_guard (by rfl) ?_; dsimp only)); refine Kd.R_lit k47 _ 47 ?hg (N := 86) ?hd (xs := ([(⟨x8_10, (⟨#[49]⟩ : ByteArray)⟩ : S47)] : List (S47))) (inner := [.string x8_10, .string (⟨#[49]⟩ : ByteArray)]) (ok := fun _ => True) (okp := fun _ => True) ?hr ?hp (fun _ hk => hk) trivial (Below.refl _ _) (Nat.le_refl _) (by simp) ?_; (case hd => rfl); (case hg => rfl); (case hr => first | (go_simp; done) | (go_simp; rfl)); (case hp => exact (Reps.c2 (show Kd.M k47 _ _ _ (⟨x8_10, (⟨#[49]⟩ : ByteArray)⟩ : S47) [.string x8_10, .string (⟨#[49]⟩ : ByteArray)] from (k47_mkM _ _ _ (⟨x8_10, (⟨#[49]⟩ : ByteArray)⟩ : S47) )) (Reps.none _ _))); intro v303 w42 ho43 hb hg_ hnew_; clear hg_ hnew_; (first | rw [← Ny302.out] at ho43 | (simp only [Int.reduceToNat] at ho43; rw [← Ny302.out] at ho43)); have n0_ := Aside0.mk (Kd.N_elder' (by (with_reducible repeat (first | apply Kd.N_alloc | apply Kd.N_drewN | apply Kd.N_drew)); exact HO300.out) (Kd.R_base ho43) hb); have n1_ := Aside0.mk (Kd.R_lower ho43 (below_size (by repeat (first | (with_reducible first | exact HB.out | apply below_alloc | apply pw_below_drewN | apply below_drew1) | exact HB.out)))); have n2_ := Aside0.mk (below_step (by repeat (first | (with_reducible first | exact HB.out | apply below_alloc | apply pw_below_drewN | apply below_drew1) | exact HB.out)) hb); clear HO300; clear HB; have HO300 := n0_; have HO304 := n1_; have HB := n2_; clear n0_ n1_ n2_; clear hb ho43; obtain ⟨Ao44, co44, eo44⟩ := Kd.R_slice HO304.out; subst eo44) | ((with_reducible refine gate_dst (N := 88) rfl ?_); (try (refine gate_guard (by rfl) ?_; dsimp only)); refine Kd.N_lit k30 _ 30 ?hg (N' := 88) ?hd (xs := ([(⟨1, x8_10, (⟨#[]⟩ : ByteArray), y302, false⟩ : S30)] : List (S30))) (inner := [.int .i64 1, .string x8_10, .string (⟨#[]⟩ : ByteArray), .slice Ao44 y302.length co44, .bool false]) (ok := (fun k_ => some k_ ≠ (v299 : Value).ownBlock)) (okp := (fun k_ => some k_ ≠ (v299 : Value).ownBlock)) ?hr ?hp (fun _ hk => hk) ((show ∀ k_, w42.heap.size ≤ k_ → (fun k_ => some k_ ≠ (v299 : Value).ownBlock) k_ from fun k_ hk => Kd.fresh' (Kd.N_lt (by (with_reducible repeat (first | apply Kd.N_alloc | apply Kd.N_drewN | apply Kd.N_drew)); exact HO300.out)) k_ hk) _ (Nat.le_refl _)) (Below.refl _ _) (Nat.le_refl _) (by simp) ?_; (case hd => rfl); (case hg => rfl); (case hr => first | (go_simp; done) | (go_simp; rfl)); (case hp => exact (Reps.c5 (show Kd.FK k30 _ _ (⟨1, x8_10, (⟨#[]⟩ : ByteArray), y302, false⟩ : S30) [.int .i64 1, .string x8_10, .string (⟨#[]⟩ : ByteArray), .slice Ao44 y302.length co44, .bool false] from (k30_mkF _ _ (⟨1, x8_10, (⟨#[]⟩ : ByteArray), y302, false⟩ : S30) (Kd.R_reads' (Kd.R_mono (ok' := (fun k_ => some k_ ≠ (v299 : Value).ownBlock)) (Kd.R_apart' (HO304.out) (Kd.N_typed HO300.out) (by decide)) (fun k_ hk => hk.2))).2.1 (Kd.R_F (Kd.R_mono (ok' := (fun k_ => some k_ ≠ (v299 : Value).ownBlock)) (Kd.R_apart' (HO304.out) (Kd.N_typed HO300.out) (by decide)) (fun k_ hk => hk.2))))) (Reps.none _ _))); intro v306 w45 ho46 hb hg_ hnew_; clear hg_ hnew_; (first | rw [← Ny305.out] at ho46 | (simp only [Int.reduceToNat] at ho46; rw [← Ny305.out] at ho46)); have n0_ := Aside0.mk (Kd.N_elder' (by (with_reducible repeat (first | apply Kd.N_alloc | apply Kd.N_drewN | apply Kd.N_drew)); exact HO300.out) (Kd.N_base ho46) hb); have n1_ := Aside0.mk (Kd.N_lower ho46 (below_size (by repeat (first | (with_reducible first | exact HB.out | apply below_alloc | apply pw_below_drewN | apply below_drew1) | exact HB.out)))); have n2_ := Aside0.mk (below_step (by repeat (first | (with_reducible first | exact HB.out | apply below_alloc | apply pw_below_drewN | apply below_drew1) | exact HB.out)) hb); clear HO300; clear HB; clear HO304; have HO300 := n0_; have HO307 := n1_; have HB := n2_; clear n0_ n1_ n2_; clear hb ho46; obtain ⟨Ao47, co47, eo47⟩ := Kd.N_slice HO300.out; subst eo47; obtain ⟨Ao48, co48, eo48⟩ := Kd.N_slice HO307.out; subst eo48) | (go_at_call 14; (with_reducible refine (stolelaw0_SameTokens.calls _ _ t297 _ _ y305 t308 _ ?side1 ?side2 ?side3 ?side4 A40.out).mono ?_); (case side1 => repeat (first | exact (Kd.N_reads' HO300.out).2.2 | (with_reducible refine Kd.C_alloc ?_ _) | (with_reducible refine Kd.C_drewN ?_ _) | (with_reducible refine Kd.C_drew ?_))); (case side2 => exact (Kd.N_reads' HO300.out).2.1); (case side3 => repeat (first | exact (Kd.N_reads' HO307.out).2.2 | (with_reducible refine Kd.C_alloc ?_ _) | (with_reducible refine Kd.C_drewN ?_ _) | (with_reducible refine Kd.C_drew ?_))); (case side4 => exact (Kd.N_reads' HO307.out).2.1); rintro e w' ⟨rfl, ⟨nd, rfl⟩⟩))
             go_ret
             exact ⟨by first | rfl | (simp [errW_none, errW_some] <;> rfl) | (simp [*, errW_none, errW_some] <;> rfl), by repeat (first | (with_reducible first | exact HB.out | apply below_alloc | apply pw_below_drewN | apply below_drew1) | exact HB.out)⟩
            ·rw [if_neg c39] at H
             have c39b0 : (t301 == 0) = false := beq_eq_false_iff_ne.mpr c39
             have c39b1 : (t301 != 0) = true := bne_iff_ne.mpr c39
             obtain rfl := Option.some.inj H
             exact absurd hr (by simp)
           ·rw [if_neg c36] at H
            exact absurd H (by simp)
          ·rw [if_neg c35] at H
           exact absurd H (by simp)
         ·rw [if_neg c34] at H
          exact absurd H (by simp)
        ·rw [if_neg c33] at H
         exact absurd H (by simp)
 ·replace c4 := Bool.eq_false_iff.mpr c4
  subst c4
  have H1 : (some false) = some r := by rw [if_neg (show ¬ (false = true) by decide)] at H; exact H
  clear H
  have H := H1
  clear H1
  obtain rfl := Option.some.inj H
  exact absurd hr (by simp)
/-- THE ONE PURE STATEMENT of stolelaw5_TokenNames: yours. -/
def stolelaw5_TokenNames.Pure : Prop := ∀ (a0 : Int) (a1 : Bool), (Lit.int .i64 a0).wf = true → ∃ k, stolelaw5_TokenNames.f k a0 a1 = some true
theorem stolelaw5_TokenNames.walk (P : stolelaw5_TokenNames.Pure) (a0 : Int) (a1 : Bool) (w : World) (hT : Tabs w) (w0 : (Lit.int .i64 a0).wf = true) :
  Calls Tryd.prog 9 #[.int .i64 a0, .bool a1] w fun e w' => e = .returned (.bool true) ∧ Below w.heap.size w w' := by
 obtain ⟨k, h⟩ := P a0 a1 w0
 refine (stolelaw5_TokenNames.calls k a0 a1 true w hT h rfl).mono ?_
 rintro e w' ⟨rfl, hd⟩
 exact ⟨rfl, hd⟩
end Go.Proofs.YtgbaakopneldaaaDoor.XL
end
section
namespace Go.Proofs.YtgbaakopneldaaaDoor.P5
open Go.RowKit Go.Proofs.YtgbaakopneldaaaDoor.XK Go.Proofs.YtgbaakopneldaaaDoor.XL Go.Proofs.YtgbaakopneldaaaDoor.Tk Go.Proofs.YtgbaakopneldaaaDoor.ExtM Go.Proofs.YtgbaakopneldaaaDoor.Base Go.Proofs.YtgbaakopneldaaaDoorW.PrintWords Go.Proofs.YtgbaakopneldaaaDoorW.PrintLast Go.Proofs.YtgbaakopneldaaaDoorW.PrintMore
set_option linter.unusedVariables false
set_option linter.unusedSimpArgs false
set_option maxRecDepth 100000
theorem and_maskP (x : Int) (i : Nat) (hi : i ≤ 62) : Go.bits .and .i64 x (2 ^ i - 1) = x % 2 ^ i := by
  have hpos : 0 < 2 ^ i := Nat.two_pow_pos i
  have hlt : 2 ^ i ≤ 2 ^ 62 := Nat.pow_le_pow_right (by decide) hi
  have hc : ((2 : Int) ^ i - 1) = ((2 ^ i - 1 : Nat) : Int) := by
    rw [Int.natCast_sub hpos]; simp
  have hm : (2 ^ i - 1) % 2 ^ IntKind.i64.bits = 2 ^ i - 1 := Nat.mod_eq_of_lt (by show 2 ^ i - 1 < 2 ^ 64; omega)
  have hd : (2 : Int) ^ i ∣ 2 ^ 64 := ⟨2 ^ (64 - i), by rw [← Int.pow_add]; congr 1; omega⟩
  have hx0 : 0 ≤ x % 2 ^ 64 := Int.emod_nonneg _ (by decide)
  have e : ((BitVec.ofInt IntKind.i64.bits x).toNat : Int) = x % 2 ^ 64 := by
    rw [BitVec.toNat_ofInt, Int.toNat_of_nonneg (by exact hx0)]; rfl
  have e2 : (((BitVec.ofInt IntKind.i64.bits x).toNat % 2 ^ i : Nat) : Int) = x % 2 ^ i := by
    rw [Int.natCast_emod, e]
    have : ((2 ^ i : Nat) : Int) = (2 : Int) ^ i := by simp
    rw [this, Int.emod_emod_of_dvd _ hd]
  rw [hc]
  simp only [Go.bits, BitVec.toNat_and, BitVec.ofInt_natCast, BitVec.toNat_ofNat]
  rw [hm, Nat.and_two_pow_sub_one_eq_mod, IntKind.wrap_i64, e2]
  have h0 : 0 ≤ x % 2 ^ i := Int.emod_nonneg _ (by have : (0:Int) < 2 ^ i := by exact_mod_cast hpos
                                                   omega)
  have h1 : x % 2 ^ i < 2 ^ i := Int.emod_lt_of_pos _ (by exact_mod_cast hpos)
  have h2 : (2 : Int) ^ i ≤ 2 ^ 62 := by exact_mod_cast hlt
  omega
theorem many63 (x : Int) : ∃ n : Nat, n < 64 ∧ wrap64 (1 + (Go.bits .and .i64 x 63)) = ((n : Int) + 1) := by
  have h := and_maskP x 6 (by decide)
  have h2 : Go.bits .and .i64 x 63 = x % 64 := by simpa using h
  refine ⟨(x % 64).toNat, by omega, ?_⟩
  rw [h2]; unfold wrap64; omega
theorem names_all : ∀ k : Fin 64, ∀ b : Bool, stolelaw5_TokenNames.l0 200 b ((k.1 : Int) + 1) ⟨#[]⟩ 0 = some true := by decide +kernel
theorem tokenNames_plain (a0 : Int) (a1 : Bool) (w0 : (Lit.int .i64 a0).wf = true) : ∃ k, stolelaw5_TokenNames.f k a0 a1 = some true := by
  refine Ev.rounds ?_
  refine Ev.congr (f := fun k => _) (fun k => by rw [stolelaw5_TokenNames.f]) ?_
  refine Ev.bind awake_ev ?_
  refine Ev.pos rfl ?_
  obtain ⟨n, hn, e⟩ := many63 a0
  rw [e]
  exact Ev.of (fun k => (stolelaw5_TokenNames.mono_l k).1 _ _ _ _) (names_all ⟨n, hn⟩ a1)
end Go.Proofs.YtgbaakopneldaaaDoor.P5
end
section
namespace Go.Proofs.YtgbaakopneldaaaDoor.RowTokenNames
open Go.ChangeShapes Go.WideShapes Go.ChangeAt Go.RowKit Go.Proofs.YtgbaakopneldaaaDoorW.PrintWords Go.Proofs.YtgbaakopneldaaaDoorW.PrintLast Go.Proofs.YtgbaakopneldaaaDoor.ExtM
open Go.ChangeMaps (open_string shut_string)
set_option linter.unusedVariables false
theorem own : ownKnob Tryd.prog.godebug = none := by kernel_rfl
set_option maxRecDepth 100000 in
set_option maxHeartbeats 4000000 in
theorem contract (H : Type) (enc : TypeId × Value → H) (W : World) (base : Nat) (args : Array Value) (ds gs : List (DataW H)) (before : List MemPlace)
    (hval0 : ∀ (j : Nat) t v, Tryd.f9.params[j]? = some t → args[j]? = some v → Value.okWide Tryd.prog W .any base t v)
    (hW : DataW.Whole enc Tryd.prog Tryd.f9.params.toList Rows.tokenNamesSpec.vars false W args.toList ds gs before)
    (hsz0 : (DataW.weightsEach Tryd.prog (Tryd.f9.params.toList ++ Rows.tokenNamesSpec.plain.varTypes Tryd.prog) (ds ++ gs)).all (· ≤ reachBytes) = true)
    (hL : laidMetH Tryd.prog Rows.tokenNamesRow.laid W)
    (hsh : W.ShapedOpen Tryd.prog)
    : Calls Tryd.prog 9 args W fun e W' => ∃ v, e = .returned v ∧ Rows.tokenNamesSpec.post enc Tryd.prog Tryd.f9 false true false false W args v W' := by
  have hsz : (DataW.weightsEach Tryd.prog (Tryd.f9.params.toList ++ Rows.tokenNamesSpec.plain.varTypes Tryd.prog) (ds ++ gs)).all (· ≤ reachBytes) = true := hsz0
  have hval : ∀ (j : Nat) t v, Tryd.f9.params[j]? = some t → args[j]? = some v → Value.okWide Tryd.prog W .any base t v := hval0
  have hW' := hW
  obtain ⟨p, q, hA0, hV, rfl, hfz, hnd⟩ := hW
  have hA : DataW.TrodAll enc Tryd.prog W 0 (fun _ => true) true Tryd.f9.params.toList args.toList ds p := hA0
  rw [Tryd.params9] at hA hval hsz
  obtain ⟨v0, vs0, d0, ds0, p0, q0, hargs, rfl, rfl, h0, r0⟩ := trodAll_cons hA
  obtain ⟨v1, vs1, d1, ds1, p1, q1, rfl, rfl, rfl, h1, r1⟩ := trodAll_cons r0
  obtain ⟨rfl, rfl, rfl⟩ := trodAll_nil r1
  obtain rfl : args = #[v0, v1] := by cases args; simp_all
  obtain ⟨rfl, rfl⟩ := trodVars_none hV
  obtain ⟨a0, rfl, rfl, rfl, w0⟩ := open_int Tryd.underlying3 (hval 0 3 v0 rfl rfl) h0
  obtain ⟨a1, rfl, rfl, rfl⟩ := open_bool Tryd.underlying4 (hval 1 4 v1 rfl rfl) h1
  clear hA0 hval0 hsz0 hsz hval
  have hT : Tabs W := Tryd.laysM143.s1_3 W hsh
  obtain ⟨k, hk⟩ := P5.tokenNames_plain a0 a1 w0
  refine (XL.stolelaw5_TokenNames.calls k a0 a1 true W hT hk rfl).mono fun e W' ⟨he, bel0⟩ => ?_
  have bel : Below W.heap.size W W' := bel0
  subst he
  simp only [List.append_nil] at hW'
  exact ⟨_, rfl, _, _, _, [], _, [], hW', trodAll_mk1 (shut_bool Tryd.underlying4 _), (trodAll_cons_mk (shut_int Tryd.underlying3 w0) (trodAll_cons_mk (shut_bool Tryd.underlying4 _) trodAll_mk0)), rfl, bel.frame _, fun h => by cases h⟩
theorem laid_met (os : Os) : laidMetH Tryd.prog Rows.tokenNamesRow.laid ((World.laidAll Tryd.prog os Rows.tokenNamesRow.laid).forCall (fun _ _ => 0) ⟨#[], #[.int .i64 0, .bool false], []⟩).memory := by
  rw [MakeChecks.laidMetH_plain _ _ _ (by kernel_rfl)]
  exact laidMet_laidAll _ (by kernel_rfl) (by kernel_rfl)
theorem reads (os : Os) {H : Type} (enc : TypeId × Value → H) : ∃ places, DataW.whole enc Tryd.prog ((World.laidAll Tryd.prog os Rows.tokenNamesRow.laid).forCall (fun _ _ => 0) ⟨#[], #[.int .i64 0, .bool false], []⟩).memory Tryd.f9.params.toList Rows.tokenNamesSpec.vars false (#[.int .i64 0, .bool false] : Array Value).toList 8 = some ([.lit (.int .i64 0), .lit (.bool false)], [], places) :=
  ⟨[], by kernel_rfl⟩
set_option maxRecDepth 100000 in
theorem lifted (os : Os) (started : os.Started) (H : Type) (enc : TypeId × Value → H) (F : Stop.Interp) :
    ReturnsInHanded {} Tryd.checked os 9 .any ((OpenSpec.ofChange Rows.tokenNamesSpec).preRow enc Tryd.prog Tryd.f9 Rows.tokenNamesRow.domain false Rows.tokenNamesRow.laid) (((OpenSpec.ofChange Rows.tokenNamesSpec).at F).post enc Tryd.prog Tryd.f9 false true false false) := by
  obtain ⟨places, hx⟩ := reads os enc
  refine returnsInHanded_of_row (C := Tryd.checked) (s := (OpenSpec.ofChange Rows.tokenNamesSpec)) own started (by kernel_rfl) Tryd.func9
    (witness_row_at (enc := enc) (C := Tryd.checked) false (World.laidAll Tryd.prog os Rows.tokenNamesRow.laid) #[.int .i64 0, .bool false] (World.laidAll_os _ _ _) (by kernel_rfl) (by kernel_rfl) (by kernel_rfl)
      (OpenSpec.preRow_of_cond 8 hx (by kernel_rfl) (fun k hk => by cases hk) (by kernel_rfl) (laid_met os))) ?_
  intro W base args ds gs before hval hW hcnd hcond hsz hL hsh _
  exact contract H enc W base args ds gs before hval hW hsz hL hsh
theorem said : Rows.TokenNamesSaid :=
  OpenClaim.holds_of_cond 9 Tryd.f9 rfl rfl rfl rfl rfl rfl rfl ⟨rfl, rfl, rfl, rfl, rfl⟩ rfl rfl rfl rfl rfl (by kernel_rfl) Tryd.func9 (by kernel_rfl)
    (of_decide_eq_true (by kernel_rfl)) (by unfold Func.isWrapper; first | (rw [if_pos (by decide +kernel)]; kernel_rfl) | (rw [if_neg (by decide +kernel)]; exact ⟨rfl, rfl⟩))
    (fun os started H enc _ F => by rw [OpenClaim.pre_eq_preRow]; exact lifted os started H enc F)
theorem plain (f : FuncId) (fn : Func) (hf : Tryd.pinned.checked.prog.funcNamed "stole/stolelaw5.TokenNames" = some f) (hfn : Tryd.pinned.checked.prog.funcs[f]? = some fn) :
    false = Tryd.pinned.checked.prog.looks [] ∧ ∀ (j : Nat) t, fn.params[j]? = some t → Tryd.pinned.checked.prog.wantsStandIn t = false := by
  obtain rfl : f = 9 := Option.some.inj ((show Tryd.prog.funcNamed "stole/stolelaw5.TokenNames" = some 9 by kernel_rfl).symm.trans hf) |>.symm
  obtain rfl : fn = Tryd.f9 := (Option.some.inj (Tryd.func9.symm.trans hfn)).symm
  refine ⟨by kernel_rfl, fun j t ht => ?_⟩
  rw [Tryd.params9] at ht
  have hm := Array.mem_of_getElem? ht
  have hall : (#[3, 4] : Array TypeId).all (fun t => Tryd.prog.wantsStandIn t == false) = true := by kernel_rfl
  rw [Array.all_eq_true'] at hall
  exact eq_of_beq (hall t hm)
theorem proved : Rows.TokenNamesCardSaid :=
  Claim7.holds_tied_plain_at .later [] _ _ _ _ said (fun _ h => by cases h) (by kernel_rfl) (fun _ h => by cases h) tokenNames_row_tie rfl ⟨rfl, rfl⟩ (by kernel_rfl) rfl plain (by kernel_rfl)
end Go.Proofs.YtgbaakopneldaaaDoor.RowTokenNames
namespace Go.Proofs.YtgbaakopneldaaaDoor
theorem tokenNames_holds : Rows.TokenNamesCardSaid := RowTokenNames.proved
#print axioms tokenNames_holds
end Go.Proofs.YtgbaakopneldaaaDoor
end
