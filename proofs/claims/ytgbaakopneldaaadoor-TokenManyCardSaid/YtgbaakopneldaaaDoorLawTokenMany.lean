/- The law stole/stolelaw5.TokenMany returns true at every input of its types, and its arguments read behind the call as before. The listed package-level variables are tied to the program's text. No further condition. TokenMany, plain. TokenNames, plain. Laid by xprint.py, a program of this session over the kit's print: for each Go function one Lean function of the same answers, and the walk that shows it. -/
import Derived.Test.YtgbaakopneldaaaDoorM15
import Derived.Test.YtgbaakopneldaaaDoorM16
import Derived.Test.YtgbaakopneldaaaDoorM17
import Derived.KernelRfl
import Derived.Test.YtgbaakopneldaaaDoorCards
import Derived.Test.YtgbaakopneldaaaDoorTie
import Derived.Test.YtgbaakopneldaaaDoorM0
import Derived.Test.YtgbaakopneldaaaDoorM14
import Derived.WalkKit
import Derived.ProofKit
import Derived.OpenShut
import Derived.ShutString
import Derived.ChangeOld
import Derived.Below
import Derived.SizedLaws
import Derived.Deep.DeepHandedRow
import Derived.LaidMore
import Derived.Lay
import Derived.SevenTiedAt
section
namespace Go.Proofs.YtgbaakopneldaaaDoor.XL
open Go.RowKit Go.Proofs.YtgbaakopneldaaaDoor.ExtM Go.Proofs.YtgbaakopneldaaaDoor.XK Go.Proofs.YtgbaakopneldaaaDoorW.PrintWords Go.Proofs.YtgbaakopneldaaaDoorW.PrintLast Go.Proofs.YtgbaakopneldaaaDoorW.PrintMore
attribute [local go_sem] max2_int min2_int max_two min_two max_three min_three max_four min_four   -- for this text's walks alone
set_option linter.unusedVariables false
set_option linter.unusedSimpArgs false
/-! ### stolelaw5_TokenMany: function 8 -/
def stolelaw5_TokenMany.l0 : Nat → Int → Int → ByteArray → List (S47) → Int → Option (Bool)
 | 0, _, _, _, _, _ => none
 | k + 1, x1, x5, x6, x7, x8 => if x8 < x5 then ((stoleref0_Decimal.f k x8).bind fun t274 => (if x6.size + 2 ≤ 9223372036854775807 then (if x6.size + 2 + t274.size ≤ 9223372036854775807 then (if x6.size + 2 + t274.size + 1 ≤ 9223372036854775807 then (if x6.size + 2 + t274.size + 1 + t274.size ≤ 9223372036854775807 then (if 0 ≤ (Go.bits .and .i64 x8 15) then (if (Go.bits .and .i64 (shr .i64 x1 (Go.bits .and .i64 x8 15)) 1) = 1 then (if x6.size + 2 + t274.size + 1 + t274.size + 2 ≤ 9223372036854775807 then (if x6.size + 2 + t274.size + 1 + t274.size + 2 + t274.size ≤ 9223372036854775807 then (if x6.size + 2 + t274.size + 1 + t274.size + 2 + t274.size + 4 ≤ 9223372036854775807 then (if x8 < 32 then (if 1 + t274.size ≤ 9223372036854775807 then (if x7.length < 4398046511104 then (stolelaw5_TokenMany.l0 k x1 x5 (((((((x6 ++ (⟨#[32, 65]⟩ : ByteArray)) ++ t274) ++ (⟨#[61]⟩ : ByteArray)) ++ t274) ++ (⟨#[32, 97]⟩ : ByteArray)) ++ t274) ++ (⟨#[61, 39, 120, 39]⟩ : ByteArray)) (x7 ++ [(⟨(⟨#[97]⟩ : ByteArray) ++ t274, t274⟩ : S47)]) (wrap64 (x8 + 1))) else (none)) else (none)) else (stolelaw5_TokenMany.l0 k x1 x5 (((((((x6 ++ (⟨#[32, 65]⟩ : ByteArray)) ++ t274) ++ (⟨#[61]⟩ : ByteArray)) ++ t274) ++ (⟨#[32, 97]⟩ : ByteArray)) ++ t274) ++ (⟨#[61, 39, 120, 39]⟩ : ByteArray)) x7 (wrap64 (x8 + 1)))) else (none)) else (none)) else (none)) else (if x8 < 32 then (if 1 + t274.size ≤ 9223372036854775807 then (if x7.length < 4398046511104 then (stolelaw5_TokenMany.l0 k x1 x5 ((((x6 ++ (⟨#[32, 65]⟩ : ByteArray)) ++ t274) ++ (⟨#[61]⟩ : ByteArray)) ++ t274) (x7 ++ [(⟨(⟨#[97]⟩ : ByteArray) ++ t274, t274⟩ : S47)]) (wrap64 (x8 + 1))) else (none)) else (none)) else (stolelaw5_TokenMany.l0 k x1 x5 ((((x6 ++ (⟨#[32, 65]⟩ : ByteArray)) ++ t274) ++ (⟨#[61]⟩ : ByteArray)) ++ t274) x7 (wrap64 (x8 + 1))))) else (none)) else (none)) else (none)) else (none)) else (none))) else (if x6.size + 1 ≤ 9223372036854775807 then ((tok_Tokens.f (x6 ++ (⟨#[62]⟩ : ByteArray))).bind fun bt265 => ((stolelaw0_Num.f bt265.2).bind fun t269 => (if t269 = 0 then ((stolelaw0_SameTokens.f bt265.1 (([(⟨1, (⟨#[112]⟩ : ByteArray), (⟨#[]⟩ : ByteArray), x7, false⟩ : S30)] : List (S30)))).bind fun t273 => (some t273)) else (some false)))) else (none))
def stolelaw5_TokenMany.f (k : Nat) (a0 : Int) (a1 : Int) : Option (Bool) := (stolelaw5_awake.f k).bind fun t264 => (if t264 = true then (stolelaw5_TokenMany.l0 k a1 (wrap64 (1 + (Go.bits .and .i64 a0 63))) (⟨#[60, 112]⟩ : ByteArray) ([] : List (S47)) 0) else (some false))
theorem stolelaw5_TokenMany.mono_l : ∀ k, (∀ y0 y1 y2 y3 y4, LeO (stolelaw5_TokenMany.l0 k y0 y1 y2 y3 y4) (stolelaw5_TokenMany.l0 (k + 1) y0 y1 y2 y3 y4))
 | 0 => fun _ _ _ _ _ r h => by simp [stolelaw5_TokenMany.l0] at h
 | k + 1 => by
  have ih0 := stolelaw5_TokenMany.mono_l k
  ·intro y0 y1 y2 y3 y4
   unfold stolelaw5_TokenMany.l0
   repeat' first
   | (with_reducible exact ih0 _ _ _ _ _)
   | (with_reducible exact stolelaw5_awake.mono _)
   | (with_reducible exact stoleref0_Decimal.mono _ _)
   | (with_reducible exact LeO.refl _)
   | (with_reducible exact LeO.none _)
   | (with_reducible refine LeO.ite ?_ ?_)
   | (with_reducible refine LeO.bind ?_ (fun _ => ?_))
   | exact ih0 _ _ _ _ _
   | exact stolelaw5_awake.mono _
   | exact stoleref0_Decimal.mono _ _
   | exact LeO.none _
   | refine LeO.ite ?_ ?_
   | refine LeO.bind ?_ (fun _ => ?_)
theorem stolelaw5_TokenMany.mono : ∀ a0 a1 k, LeO (stolelaw5_TokenMany.f k a0 a1) (stolelaw5_TokenMany.f (k + 1) a0 a1) := by
 intro a0 a1 k
 have ih0 := stolelaw5_TokenMany.mono_l k
 unfold stolelaw5_TokenMany.f
 repeat' first
   | (with_reducible exact ih0 _ _ _ _ _)
   | (with_reducible exact stolelaw5_awake.mono _)
   | (with_reducible exact stoleref0_Decimal.mono _ _)
   | (with_reducible exact LeO.refl _)
   | (with_reducible exact LeO.none _)
   | (with_reducible refine LeO.ite ?_ ?_)
   | (with_reducible refine LeO.bind ?_ (fun _ => ?_))
   | exact ih0 _ _ _ _ _
   | exact stolelaw5_awake.mono _
   | exact stoleref0_Decimal.mono _ _
   | exact LeO.none _
   | refine LeO.ite ?_ ?_
   | refine LeO.bind ?_ (fun _ => ?_)
set_option maxHeartbeats 8000000 in
set_option maxRecDepth 100000 in
theorem stolelaw5_TokenMany.calls (k : Nat) (a0 : Int) (a1 : Int) (r : Bool) (w : World) (hT : Tabs w) (h : stolelaw5_TokenMany.f k a0 a1 = some r) (hr : r = true) :
  Calls Tryd.prog 8 #[.int .i64 a0, .int .i64 a1] w fun e w' => e = .returned (.bool r) ∧ Below w.heap.size w w' := by
 have hu47 := Tryd.underlying47
 have hu30 := Tryd.underlying30
 have HT := Aside0.mk hT
 clear hT
 have HB := Aside0.mk (Below.refl w.heap.size w)
 have H : ((stolelaw5_awake.f k).bind fun t264 => (if t264 = true then (stolelaw5_TokenMany.l0 k a1 (wrap64 (1 + (Go.bits .and .i64 a0 63))) (⟨#[60, 112]⟩ : ByteArray) ([] : List (S47)) 0) else (some false))) = some r := h
 clear h
 replace H := Option.bind_eq_some_iff.mp H
 obtain ⟨t264, A30, H⟩ := H
 replace H : (if t264 = true then (stolelaw5_TokenMany.l0 k a1 (wrap64 (1 + (Go.bits .and .i64 a0 63))) (⟨#[60, 112]⟩ : ByteArray) ([] : List (S47)) 0) else (some false)) = some r := H
 have A3 := Aside0.mk A30
 clear A30
 by_cases c4 : t264 = true
 ·subst c4
  have H1 : (stolelaw5_TokenMany.l0 k a1 (wrap64 (1 + (Go.bits .and .i64 a0 63))) (⟨#[60, 112]⟩ : ByteArray) ([] : List (S47)) 0) = some r := by rw [if_pos rfl] at H; exact H
  clear H
  have H := H1
  clear H1
  have H' := Aside0.mk H
  clear H
  go_enter Tryd.func8, Tryd.ntmps8
  go_wp2_with (first | ((with_reducible refine gate_callee (f := 10) rfl ?_); refine goesL_ (some 12) rfl rfl Tryd.func10 (by kernel_rfl) rfl #[] rfl (by (try simp only [List.map_toArray, List.map_cons, List.map_nil]); first | done | rfl | (simp only [List.length_drop, List.length_take]; rfl)) ?_; (with_reducible refine (stolelaw5_awake.calls k  true _ (tabs_below HT.out (by repeat (first | (with_reducible first | exact HB.out | apply below_alloc | apply pw_below_drewN | apply below_drew1) | exact HB.out))) A3.out rfl).mono ?_); rintro e w5 ⟨rfl, hb⟩; refine ⟨_, rfl, ?_⟩; have n0_ := Aside0.mk (below_step (by repeat (first | (with_reducible first | exact HB.out | apply below_alloc | apply pw_below_drewN | apply below_drew1) | exact HB.out)) hb); clear HB; have HB := n0_; clear n0_; (try clear hb); (try clear hb2); (try clear hk); (try clear hi)))
  go_loopg [6, 7, 8] k (fun kq v6 v7 v8 w' => ∃ (x6_1 : ByteArray) (x7_1 : List (S47)) (x8_1 : Int), v6 = .string x6_1 ∧ v8 = .int .i64 x8_1 ∧ Aside0 (stolelaw5_TokenMany.l0 kq a1 (wrap64 (1 + (Go.bits .and .i64 a0 63))) x6_1 x7_1 x8_1 = some r) ∧ Aside0 (kq ≤ k) ∧ Aside0 (Kd.R k47 47 w' w.heap.size (fun _ => True) v7 x7_1) ∧ Aside0 (Below w.heap.size w w'))
  case atStart => exact ⟨((⟨#[60, 112]⟩ : ByteArray)), (([] : List (S47))), (0), (by first | rfl | (simp; done) | (simp [*]; done)), (by first | rfl | (simp; done) | (simp [*]; done)), H', ⟨Nat.le_refl _⟩, ⟨by first | exact Kd.R_nil _ _ _ _ _ | exact Kd.N_nil _ _ _ _ _ | exact Kd.V_nil _ _ _ _ _ | exact Kd.Q_nil _ _ _ _ _ | exact Kd.S_nil _ _ _ _ _⟩, ⟨by repeat (first | (with_reducible first | exact HB.out | apply below_alloc | apply pw_below_drewN | apply below_drew1) | exact HB.out)⟩⟩
  case round =>
   clear H'
   try clear c1
   try clear p2
   try clear c4
   obtain ⟨x6_1, x7_1, x8_1, rfl, rfl, HA, HK1, HO_7, HB⟩ := hrel
   cases gk with
   | zero => exact absurd HA.out (by simp [stolelaw5_TokenMany.l0])
   | succ k1 =>
    have H := HA.out
    clear HA
    simp only [stolelaw5_TokenMany.l0] at H
    by_cases c6 : x8_1 < (wrap64 (1 + (Go.bits .and .i64 a0 63)))
    ·rw [if_pos c6] at H
     have c6b0 : decide (x8_1 < (wrap64 (1 + (Go.bits .and .i64 a0 63)))) = true := decide_eq_true c6
     clear c6
     replace H := Option.bind_eq_some_iff.mp H
     obtain ⟨t274, A70, H⟩ := H
     replace H : (if x6_1.size + 2 ≤ 9223372036854775807 then (if x6_1.size + 2 + t274.size ≤ 9223372036854775807 then (if x6_1.size + 2 + t274.size + 1 ≤ 9223372036854775807 then (if x6_1.size + 2 + t274.size + 1 + t274.size ≤ 9223372036854775807 then (if 0 ≤ (Go.bits .and .i64 x8_1 15) then (if (Go.bits .and .i64 (shr .i64 a1 (Go.bits .and .i64 x8_1 15)) 1) = 1 then (if x6_1.size + 2 + t274.size + 1 + t274.size + 2 ≤ 9223372036854775807 then (if x6_1.size + 2 + t274.size + 1 + t274.size + 2 + t274.size ≤ 9223372036854775807 then (if x6_1.size + 2 + t274.size + 1 + t274.size + 2 + t274.size + 4 ≤ 9223372036854775807 then (if x8_1 < 32 then (if 1 + t274.size ≤ 9223372036854775807 then (if x7_1.length < 4398046511104 then (stolelaw5_TokenMany.l0 k1 a1 (wrap64 (1 + (Go.bits .and .i64 a0 63))) (((((((x6_1 ++ (⟨#[32, 65]⟩ : ByteArray)) ++ t274) ++ (⟨#[61]⟩ : ByteArray)) ++ t274) ++ (⟨#[32, 97]⟩ : ByteArray)) ++ t274) ++ (⟨#[61, 39, 120, 39]⟩ : ByteArray)) (x7_1 ++ [(⟨(⟨#[97]⟩ : ByteArray) ++ t274, t274⟩ : S47)]) (wrap64 (x8_1 + 1))) else (none)) else (none)) else (stolelaw5_TokenMany.l0 k1 a1 (wrap64 (1 + (Go.bits .and .i64 a0 63))) (((((((x6_1 ++ (⟨#[32, 65]⟩ : ByteArray)) ++ t274) ++ (⟨#[61]⟩ : ByteArray)) ++ t274) ++ (⟨#[32, 97]⟩ : ByteArray)) ++ t274) ++ (⟨#[61, 39, 120, 39]⟩ : ByteArray)) x7_1 (wrap64 (x8_1 + 1)))) else (none)) else (none)) else (none)) else (if x8_1 < 32 then (if 1 + t274.size ≤ 9223372036854775807 then (if x7_1.length < 4398046511104 then (stolelaw5_TokenMany.l0 k1 a1 (wrap64 (1 + (Go.bits .and .i64 a0 63))) ((((x6_1 ++ (⟨#[32, 65]⟩ : ByteArray)) ++ t274) ++ (⟨#[61]⟩ : ByteArray)) ++ t274) (x7_1 ++ [(⟨(⟨#[97]⟩ : ByteArray) ++ t274, t274⟩ : S47)]) (wrap64 (x8_1 + 1))) else (none)) else (none)) else (stolelaw5_TokenMany.l0 k1 a1 (wrap64 (1 + (Go.bits .and .i64 a0 63))) ((((x6_1 ++ (⟨#[32, 65]⟩ : ByteArray)) ++ t274) ++ (⟨#[61]⟩ : ByteArray)) ++ t274) x7_1 (wrap64 (x8_1 + 1))))) else (none)) else (none)) else (none)) else (none)) else (none)) = some r := H
     have A7 := Aside0.mk A70
     clear A70
     by_cases c8 : x6_1.size + 2 ≤ 9223372036854775807
     ·rw [if_pos c8] at H
      have c8b0 := eq_true c8
      have c8b1 : decide (x6_1.size + 2 ≤ 9223372036854775807) = true := decide_eq_true c8
      try have c8b2 : (9223372036854775807 < x6_1.size + 2) = False := eq_false (Nat.not_lt.2 c8)
      by_cases c9 : x6_1.size + 2 + t274.size ≤ 9223372036854775807
      ·rw [if_pos c9] at H
       have c9b0 := eq_true c9
       have c9b1 : decide (x6_1.size + 2 + t274.size ≤ 9223372036854775807) = true := decide_eq_true c9
       try have c9b2 : (9223372036854775807 < x6_1.size + 2 + t274.size) = False := eq_false (Nat.not_lt.2 c9)
       by_cases c10 : x6_1.size + 2 + t274.size + 1 ≤ 9223372036854775807
       ·rw [if_pos c10] at H
        have c10b0 := eq_true c10
        have c10b1 : decide (x6_1.size + 2 + t274.size + 1 ≤ 9223372036854775807) = true := decide_eq_true c10
        try have c10b2 : (9223372036854775807 < x6_1.size + 2 + t274.size + 1) = False := eq_false (Nat.not_lt.2 c10)
        by_cases c11 : x6_1.size + 2 + t274.size + 1 + t274.size ≤ 9223372036854775807
        ·rw [if_pos c11] at H
         have c11b0 := eq_true c11
         have c11b1 : decide (x6_1.size + 2 + t274.size + 1 + t274.size ≤ 9223372036854775807) = true := decide_eq_true c11
         try have c11b2 : (9223372036854775807 < x6_1.size + 2 + t274.size + 1 + t274.size) = False := eq_false (Nat.not_lt.2 c11)
         by_cases c12 : 0 ≤ (Go.bits .and .i64 x8_1 15)
         ·rw [if_pos c12] at H
          have c12b0 := eq_true c12
          have c12b1 : decide (0 ≤ (Go.bits .and .i64 x8_1 15)) = true := decide_eq_true c12
          clear c12
          obtain ⟨ji13, hji13⟩ : ∃ j_ : Int, (shr .i64 a1 (Go.bits .and .i64 x8_1 15)) = j_ := ⟨_, rfl⟩
          replace H : (if (Go.bits .and .i64 (ji13) 1) = 1 then (if x6_1.size + 2 + t274.size + 1 + t274.size + 2 ≤ 9223372036854775807 then (if x6_1.size + 2 + t274.size + 1 + t274.size + 2 + t274.size ≤ 9223372036854775807 then (if x6_1.size + 2 + t274.size + 1 + t274.size + 2 + t274.size + 4 ≤ 9223372036854775807 then (if x8_1 < 32 then (if 1 + t274.size ≤ 9223372036854775807 then (if x7_1.length < 4398046511104 then (stolelaw5_TokenMany.l0 k1 a1 (wrap64 (1 + (Go.bits .and .i64 a0 63))) (((((((x6_1 ++ (⟨#[32, 65]⟩ : ByteArray)) ++ t274) ++ (⟨#[61]⟩ : ByteArray)) ++ t274) ++ (⟨#[32, 97]⟩ : ByteArray)) ++ t274) ++ (⟨#[61, 39, 120, 39]⟩ : ByteArray)) (x7_1 ++ [(⟨(⟨#[97]⟩ : ByteArray) ++ t274, t274⟩ : S47)]) (wrap64 (x8_1 + 1))) else (none)) else (none)) else (stolelaw5_TokenMany.l0 k1 a1 (wrap64 (1 + (Go.bits .and .i64 a0 63))) (((((((x6_1 ++ (⟨#[32, 65]⟩ : ByteArray)) ++ t274) ++ (⟨#[61]⟩ : ByteArray)) ++ t274) ++ (⟨#[32, 97]⟩ : ByteArray)) ++ t274) ++ (⟨#[61, 39, 120, 39]⟩ : ByteArray)) x7_1 (wrap64 (x8_1 + 1)))) else (none)) else (none)) else (none)) else (if x8_1 < 32 then (if 1 + t274.size ≤ 9223372036854775807 then (if x7_1.length < 4398046511104 then (stolelaw5_TokenMany.l0 k1 a1 (wrap64 (1 + (Go.bits .and .i64 a0 63))) ((((x6_1 ++ (⟨#[32, 65]⟩ : ByteArray)) ++ t274) ++ (⟨#[61]⟩ : ByteArray)) ++ t274) (x7_1 ++ [(⟨(⟨#[97]⟩ : ByteArray) ++ t274, t274⟩ : S47)]) (wrap64 (x8_1 + 1))) else (none)) else (none)) else (stolelaw5_TokenMany.l0 k1 a1 (wrap64 (1 + (Go.bits .and .i64 a0 63))) ((((x6_1 ++ (⟨#[32, 65]⟩ : ByteArray)) ++ t274) ++ (⟨#[61]⟩ : ByteArray)) ++ t274) x7_1 (wrap64 (x8_1 + 1))))) = some r := by first | (rw [hji13] at H; exact H) | (simp only [hji13] at H ⊢; exact H)
          (try rw [hji13] at A7)
          have hji13_ : (a1 / 2 ^ min (Go.bits .and .i64 x8_1 15).toNat 64) = ji13 := hji13
          have hji13z : (Go.bits .and .i64 x8_1 15) ≤ 64 → (a1 / 2 ^ (Go.bits .and .i64 x8_1 15).toNat) = ji13 := shr_small hji13
          by_cases c14 : (Go.bits .and .i64 (ji13) 1) = 1
          ·rw [if_pos c14] at H
           have c14b0 : ((Go.bits .and .i64 (ji13) 1) == 1) = true := beq_iff_eq.mpr c14
           have c14b1 : ((Go.bits .and .i64 (ji13) 1) != 1) = false := bne_eq_false_iff_eq.mpr c14
           clear c14
           by_cases c15 : x6_1.size + 2 + t274.size + 1 + t274.size + 2 ≤ 9223372036854775807
           ·rw [if_pos c15] at H
            have c15b0 := eq_true c15
            have c15b1 : decide (x6_1.size + 2 + t274.size + 1 + t274.size + 2 ≤ 9223372036854775807) = true := decide_eq_true c15
            try have c15b2 : (9223372036854775807 < x6_1.size + 2 + t274.size + 1 + t274.size + 2) = False := eq_false (Nat.not_lt.2 c15)
            by_cases c16 : x6_1.size + 2 + t274.size + 1 + t274.size + 2 + t274.size ≤ 9223372036854775807
            ·rw [if_pos c16] at H
             have c16b0 := eq_true c16
             have c16b1 : decide (x6_1.size + 2 + t274.size + 1 + t274.size + 2 + t274.size ≤ 9223372036854775807) = true := decide_eq_true c16
             try have c16b2 : (9223372036854775807 < x6_1.size + 2 + t274.size + 1 + t274.size + 2 + t274.size) = False := eq_false (Nat.not_lt.2 c16)
             by_cases c17 : x6_1.size + 2 + t274.size + 1 + t274.size + 2 + t274.size + 4 ≤ 9223372036854775807
             ·rw [if_pos c17] at H
              have c17b0 := eq_true c17
              have c17b1 : decide (x6_1.size + 2 + t274.size + 1 + t274.size + 2 + t274.size + 4 ≤ 9223372036854775807) = true := decide_eq_true c17
              try have c17b2 : (9223372036854775807 < x6_1.size + 2 + t274.size + 1 + t274.size + 2 + t274.size + 4) = False := eq_false (Nat.not_lt.2 c17)
              by_cases c18 : x8_1 < 32
              ·rw [if_pos c18] at H
               have c18b0 : decide (x8_1 < 32) = true := decide_eq_true c18
               clear c18
               by_cases c19 : 1 + t274.size ≤ 9223372036854775807
               ·rw [if_pos c19] at H
                have c19b0 := eq_true c19
                have c19b1 : decide (1 + t274.size ≤ 9223372036854775807) = true := decide_eq_true c19
                try have c19b2 : (9223372036854775807 < 1 + t274.size) = False := eq_false (Nat.not_lt.2 c19)
                by_cases c20 : x7_1.length < 4398046511104
                ·rw [if_pos c20] at H
                 have LMc20 := Aside0.mk c20
                 clear c20
                 obtain ⟨y275, hy275⟩ : ∃ y_ : List (S47), y_ = (x7_1 ++ [(⟨(⟨#[97]⟩ : ByteArray) ++ t274, t274⟩ : S47)]) := ⟨_, rfl⟩
                 replace H : (stolelaw5_TokenMany.l0 k1 a1 (wrap64 (1 + (Go.bits .and .i64 a0 63))) (((((((x6_1 ++ (⟨#[32, 65]⟩ : ByteArray)) ++ t274) ++ (⟨#[61]⟩ : ByteArray)) ++ t274) ++ (⟨#[32, 97]⟩ : ByteArray)) ++ t274) ++ (⟨#[61, 39, 120, 39]⟩ : ByteArray)) y275 (wrap64 (x8_1 + 1))) = some r := by first | (rw [hy275]; with_reducible exact H) | (have H2_ := (Option.bind_some _ _).symm.trans H; rw [hy275]; with_reducible exact H2_) | (have H2_ := (Option.bind_some _ _).symm.trans H; with_reducible exact H2_) | with_reducible exact H | (rw [hy275]; exact H) | exact H
                 have Ny275 := Aside0.mk hy275
                 clear hy275
                 have H' := Aside0.mk H
                 clear H
                 go_wp2_with (first | ((with_reducible refine gate_callee (f := 16) rfl ?_); refine goesL_ (some 23) rfl rfl Tryd.func16 (by kernel_rfl) rfl #[.int .i64 x8_1] rfl (by (try simp only [List.map_toArray, List.map_cons, List.map_nil]); first | done | rfl | (simp only [List.length_drop, List.length_take]; rfl)) ?_; (with_reducible refine (stoleref0_Decimal.calls k1 x8_1 t274 _ A7.out).mono ?_); rintro e w21 ⟨rfl, hb⟩; refine ⟨_, rfl, ?_⟩; have n0_ := Aside0.mk (Kd.R_below (by (with_reducible repeat (first | apply Kd.R_alloc | apply Kd.R_drewN | apply Kd.R_drew)); exact HO_7.out) hb); have n1_ := Aside0.mk (below_step (by repeat (first | (with_reducible first | exact HB.out | apply below_alloc | apply pw_below_drewN | apply below_drew1) | exact HB.out)) hb); clear HO_7; clear HB; have HO_7 := n0_; have HB := n1_; clear n0_ n1_; (try clear hb); (try clear hb2); (try clear hk); (try clear hi)) | ((with_reducible refine gate_builtin (b := .append) (xs := #[.tmp 44, .tmp 49]) rfl ?_); (try (refine gate_guard (by rfl) ?_; dsimp only)); at_builtin; refine Kd.R_append k47 (w0 := w) w.heap.size rfl (.tmp 44) (.tmp 49) 28 47 (.agg #[(.string ⟨#[]⟩), (.string ⟨#[]⟩)]) 32 rfl Tryd.underlying28 info47 rfl (by decide) (by omega) u7 x7_1 (⟨(⟨#[97]⟩ : ByteArray) ++ t274, t274⟩ : S47) [.string ((⟨#[97]⟩ : ByteArray) ++ t274), .string t274] (fun _ => True) (fun _ => False) rfl rfl ?aP (fun _ hk => hk.elim) ?aF ?aO ?aB ?aS ?aL ?_; (case aP => exact k47_mkM _ _ _ (⟨(⟨#[97]⟩ : ByteArray) ++ t274, t274⟩ : S47)); (case aB => exact (by repeat (first | (with_reducible first | exact HB.out | apply below_alloc | apply pw_below_drewN | apply below_drew1) | exact HB.out))); (case aF => exact (fun _ _ => trivial)); (case aO => exact (by (with_reducible repeat (first | apply Kd.R_alloc | apply Kd.R_drewN | apply Kd.R_drew)); exact HO_7.out)); (case aS => exact (below_size (by repeat (first | (with_reducible first | exact HB.out | apply below_alloc | apply pw_below_drewN | apply below_drew1) | exact HB.out)))); (case aL => have := LMc20.out; first | omega | exact Nat.le_of_lt this); intro v276 w22 ho hb hg hat; rw [← Ny275.out] at ho; have n0_ := Aside0.mk (hb); have n1_ := Aside0.mk (ho); clear HB; clear HO_7; have HB := n0_; have HO277 := n1_; clear n0_ n1_; clear ho hb hg hat))
                 go_roundg k1
                 case measure => have := HK1.out; omega
                 case rel => exact ⟨(((((((x6_1 ++ (⟨#[32, 65]⟩ : ByteArray)) ++ t274) ++ (⟨#[61]⟩ : ByteArray)) ++ t274) ++ (⟨#[32, 97]⟩ : ByteArray)) ++ t274) ++ (⟨#[61, 39, 120, 39]⟩ : ByteArray)), (y275), (wrap64 (x8_1 + 1)), (by first | rfl | (simp; done) | (simp [*]; done)), (by first | rfl | (simp; done) | (simp [*]; done)), H', ⟨by have := HK1.out; omega⟩, ⟨by (with_reducible repeat (first | apply Kd.R_alloc | apply Kd.R_drewN | apply Kd.R_drew)); exact HO277.out⟩, ⟨by repeat (first | (with_reducible first | exact HB.out | apply below_alloc | apply pw_below_drewN | apply below_drew1) | exact HB.out)⟩⟩
                ·rw [if_neg c20] at H
                 exact absurd H (by simp)
               ·rw [if_neg c19] at H
                exact absurd H (by simp)
              ·rw [if_neg c18] at H
               have c18b0 : decide (x8_1 < 32) = false := decide_eq_false c18
               clear c18
               have H' := Aside0.mk H
               clear H
               go_wp2_with (first | ((with_reducible refine gate_callee (f := 16) rfl ?_); refine goesL_ (some 23) rfl rfl Tryd.func16 (by kernel_rfl) rfl #[.int .i64 x8_1] rfl (by (try simp only [List.map_toArray, List.map_cons, List.map_nil]); first | done | rfl | (simp only [List.length_drop, List.length_take]; rfl)) ?_; (with_reducible refine (stoleref0_Decimal.calls k1 x8_1 t274 _ A7.out).mono ?_); rintro e w23 ⟨rfl, hb⟩; refine ⟨_, rfl, ?_⟩; have n0_ := Aside0.mk (Kd.R_below (by (with_reducible repeat (first | apply Kd.R_alloc | apply Kd.R_drewN | apply Kd.R_drew)); exact HO_7.out) hb); have n1_ := Aside0.mk (below_step (by repeat (first | (with_reducible first | exact HB.out | apply below_alloc | apply pw_below_drewN | apply below_drew1) | exact HB.out)) hb); clear HO_7; clear HB; have HO_7 := n0_; have HB := n1_; clear n0_ n1_; (try clear hb); (try clear hb2); (try clear hk); (try clear hi)))
               go_roundg k1
               case measure => have := HK1.out; omega
               case rel => exact ⟨(((((((x6_1 ++ (⟨#[32, 65]⟩ : ByteArray)) ++ t274) ++ (⟨#[61]⟩ : ByteArray)) ++ t274) ++ (⟨#[32, 97]⟩ : ByteArray)) ++ t274) ++ (⟨#[61, 39, 120, 39]⟩ : ByteArray)), (x7_1), (wrap64 (x8_1 + 1)), (by first | rfl | (simp; done) | (simp [*]; done)), (by first | rfl | (simp; done) | (simp [*]; done)), H', ⟨by have := HK1.out; omega⟩, ⟨by (with_reducible repeat (first | apply Kd.R_alloc | apply Kd.R_drewN | apply Kd.R_drew)); exact HO_7.out⟩, ⟨by repeat (first | (with_reducible first | exact HB.out | apply below_alloc | apply pw_below_drewN | apply below_drew1) | exact HB.out)⟩⟩
             ·rw [if_neg c17] at H
              exact absurd H (by simp)
            ·rw [if_neg c16] at H
             exact absurd H (by simp)
           ·rw [if_neg c15] at H
            exact absurd H (by simp)
          ·rw [if_neg c14] at H
           have c14b0 : ((Go.bits .and .i64 (ji13) 1) == 1) = false := beq_eq_false_iff_ne.mpr c14
           have c14b1 : ((Go.bits .and .i64 (ji13) 1) != 1) = true := bne_iff_ne.mpr c14
           by_cases c24 : x8_1 < 32
           ·rw [if_pos c24] at H
            have c24b0 : decide (x8_1 < 32) = true := decide_eq_true c24
            clear c24
            by_cases c25 : 1 + t274.size ≤ 9223372036854775807
            ·rw [if_pos c25] at H
             have c25b0 := eq_true c25
             have c25b1 : decide (1 + t274.size ≤ 9223372036854775807) = true := decide_eq_true c25
             try have c25b2 : (9223372036854775807 < 1 + t274.size) = False := eq_false (Nat.not_lt.2 c25)
             by_cases c26 : x7_1.length < 4398046511104
             ·rw [if_pos c26] at H
              have LMc26 := Aside0.mk c26
              clear c26
              obtain ⟨y278, hy278⟩ : ∃ y_ : List (S47), y_ = (x7_1 ++ [(⟨(⟨#[97]⟩ : ByteArray) ++ t274, t274⟩ : S47)]) := ⟨_, rfl⟩
              replace H : (stolelaw5_TokenMany.l0 k1 a1 (wrap64 (1 + (Go.bits .and .i64 a0 63))) ((((x6_1 ++ (⟨#[32, 65]⟩ : ByteArray)) ++ t274) ++ (⟨#[61]⟩ : ByteArray)) ++ t274) y278 (wrap64 (x8_1 + 1))) = some r := by first | (rw [hy278]; with_reducible exact H) | (have H2_ := (Option.bind_some _ _).symm.trans H; rw [hy278]; with_reducible exact H2_) | (have H2_ := (Option.bind_some _ _).symm.trans H; with_reducible exact H2_) | with_reducible exact H | (rw [hy278]; exact H) | exact H
              have Ny278 := Aside0.mk hy278
              clear hy278
              have H' := Aside0.mk H
              clear H
              go_wp2_with (first | ((with_reducible refine gate_callee (f := 16) rfl ?_); refine goesL_ (some 23) rfl rfl Tryd.func16 (by kernel_rfl) rfl #[.int .i64 x8_1] rfl (by (try simp only [List.map_toArray, List.map_cons, List.map_nil]); first | done | rfl | (simp only [List.length_drop, List.length_take]; rfl)) ?_; (with_reducible refine (stoleref0_Decimal.calls k1 x8_1 t274 _ A7.out).mono ?_); rintro e w27 ⟨rfl, hb⟩; refine ⟨_, rfl, ?_⟩; have n0_ := Aside0.mk (Kd.R_below (by (with_reducible repeat (first | apply Kd.R_alloc | apply Kd.R_drewN | apply Kd.R_drew)); exact HO_7.out) hb); have n1_ := Aside0.mk (below_step (by repeat (first | (with_reducible first | exact HB.out | apply below_alloc | apply pw_below_drewN | apply below_drew1) | exact HB.out)) hb); clear HO_7; clear HB; have HO_7 := n0_; have HB := n1_; clear n0_ n1_; (try clear hb); (try clear hb2); (try clear hk); (try clear hi)) | ((with_reducible refine gate_builtin (b := .append) (xs := #[.tmp 44, .tmp 49]) rfl ?_); (try (refine gate_guard (by rfl) ?_; dsimp only)); at_builtin; refine Kd.R_append k47 (w0 := w) w.heap.size rfl (.tmp 44) (.tmp 49) 28 47 (.agg #[(.string ⟨#[]⟩), (.string ⟨#[]⟩)]) 32 rfl Tryd.underlying28 info47 rfl (by decide) (by omega) u7 x7_1 (⟨(⟨#[97]⟩ : ByteArray) ++ t274, t274⟩ : S47) [.string ((⟨#[97]⟩ : ByteArray) ++ t274), .string t274] (fun _ => True) (fun _ => False) rfl rfl ?aP (fun _ hk => hk.elim) ?aF ?aO ?aB ?aS ?aL ?_; (case aP => exact k47_mkM _ _ _ (⟨(⟨#[97]⟩ : ByteArray) ++ t274, t274⟩ : S47)); (case aB => exact (by repeat (first | (with_reducible first | exact HB.out | apply below_alloc | apply pw_below_drewN | apply below_drew1) | exact HB.out))); (case aF => exact (fun _ _ => trivial)); (case aO => exact (by (with_reducible repeat (first | apply Kd.R_alloc | apply Kd.R_drewN | apply Kd.R_drew)); exact HO_7.out)); (case aS => exact (below_size (by repeat (first | (with_reducible first | exact HB.out | apply below_alloc | apply pw_below_drewN | apply below_drew1) | exact HB.out)))); (case aL => have := LMc26.out; first | omega | exact Nat.le_of_lt this); intro v279 w28 ho hb hg hat; rw [← Ny278.out] at ho; have n0_ := Aside0.mk (hb); have n1_ := Aside0.mk (ho); clear HB; clear HO_7; have HB := n0_; have HO280 := n1_; clear n0_ n1_; clear ho hb hg hat))
              go_roundg k1
              case measure => have := HK1.out; omega
              case rel => exact ⟨((((x6_1 ++ (⟨#[32, 65]⟩ : ByteArray)) ++ t274) ++ (⟨#[61]⟩ : ByteArray)) ++ t274), (y278), (wrap64 (x8_1 + 1)), (by first | rfl | (simp; done) | (simp [*]; done)), (by first | rfl | (simp; done) | (simp [*]; done)), H', ⟨by have := HK1.out; omega⟩, ⟨by (with_reducible repeat (first | apply Kd.R_alloc | apply Kd.R_drewN | apply Kd.R_drew)); exact HO280.out⟩, ⟨by repeat (first | (with_reducible first | exact HB.out | apply below_alloc | apply pw_below_drewN | apply below_drew1) | exact HB.out)⟩⟩
             ·rw [if_neg c26] at H
              exact absurd H (by simp)
            ·rw [if_neg c25] at H
             exact absurd H (by simp)
           ·rw [if_neg c24] at H
            have c24b0 : decide (x8_1 < 32) = false := decide_eq_false c24
            clear c24
            have H' := Aside0.mk H
            clear H
            go_wp2_with (first | ((with_reducible refine gate_callee (f := 16) rfl ?_); refine goesL_ (some 23) rfl rfl Tryd.func16 (by kernel_rfl) rfl #[.int .i64 x8_1] rfl (by (try simp only [List.map_toArray, List.map_cons, List.map_nil]); first | done | rfl | (simp only [List.length_drop, List.length_take]; rfl)) ?_; (with_reducible refine (stoleref0_Decimal.calls k1 x8_1 t274 _ A7.out).mono ?_); rintro e w29 ⟨rfl, hb⟩; refine ⟨_, rfl, ?_⟩; have n0_ := Aside0.mk (Kd.R_below (by (with_reducible repeat (first | apply Kd.R_alloc | apply Kd.R_drewN | apply Kd.R_drew)); exact HO_7.out) hb); have n1_ := Aside0.mk (below_step (by repeat (first | (with_reducible first | exact HB.out | apply below_alloc | apply pw_below_drewN | apply below_drew1) | exact HB.out)) hb); clear HO_7; clear HB; have HO_7 := n0_; have HB := n1_; clear n0_ n1_; (try clear hb); (try clear hb2); (try clear hk); (try clear hi)))
            go_roundg k1
            case measure => have := HK1.out; omega
            case rel => exact ⟨((((x6_1 ++ (⟨#[32, 65]⟩ : ByteArray)) ++ t274) ++ (⟨#[61]⟩ : ByteArray)) ++ t274), (x7_1), (wrap64 (x8_1 + 1)), (by first | rfl | (simp; done) | (simp [*]; done)), (by first | rfl | (simp; done) | (simp [*]; done)), H', ⟨by have := HK1.out; omega⟩, ⟨by (with_reducible repeat (first | apply Kd.R_alloc | apply Kd.R_drewN | apply Kd.R_drew)); exact HO_7.out⟩, ⟨by repeat (first | (with_reducible first | exact HB.out | apply below_alloc | apply pw_below_drewN | apply below_drew1) | exact HB.out)⟩⟩
         ·rw [if_neg c12] at H
          exact absurd H (by simp)
        ·rw [if_neg c11] at H
         exact absurd H (by simp)
       ·rw [if_neg c10] at H
        exact absurd H (by simp)
      ·rw [if_neg c9] at H
       exact absurd H (by simp)
     ·rw [if_neg c8] at H
      exact absurd H (by simp)
    ·rw [if_neg c6] at H
     have c6b0 : decide (x8_1 < (wrap64 (1 + (Go.bits .and .i64 a0 63)))) = false := decide_eq_false c6
     clear c6
     by_cases c30 : x6_1.size + 1 ≤ 9223372036854775807
     ·rw [if_pos c30] at H
      have c30b0 := eq_true c30
      have c30b1 : decide (x6_1.size + 1 ≤ 9223372036854775807) = true := decide_eq_true c30
      try have c30b2 : (9223372036854775807 < x6_1.size + 1) = False := eq_false (Nat.not_lt.2 c30)
      replace H := Option.bind_eq_some_iff.mp H
      obtain ⟨⟨t265, t266⟩, A310, H⟩ := H
      replace H : ((stolelaw0_Num.f t266).bind fun t269 => (if t269 = 0 then ((stolelaw0_SameTokens.f t265 (([(⟨1, (⟨#[112]⟩ : ByteArray), (⟨#[]⟩ : ByteArray), x7_1, false⟩ : S30)] : List (S30)))).bind fun t273 => (some t273)) else (some false))) = some r := H
      have A31 := Aside0.mk A310
      clear A310
      replace H := Option.bind_eq_some_iff.mp H
      obtain ⟨t269, A320, H⟩ := H
      replace H : (if t269 = 0 then ((stolelaw0_SameTokens.f t265 (([(⟨1, (⟨#[112]⟩ : ByteArray), (⟨#[]⟩ : ByteArray), x7_1, false⟩ : S30)] : List (S30)))).bind fun t273 => (some t273)) else (some false)) = some r := H
      have A32 := Aside0.mk A320
      clear A320
      by_cases c33 : t269 = 0
      ·rw [if_pos c33] at H
       have c33b0 : (t269 == 0) = true := beq_iff_eq.mpr c33
       have c33b1 : (t269 != 0) = false := bne_eq_false_iff_eq.mpr c33
       clear c33
       obtain ⟨y270, hy270⟩ : ∃ y_ : List (S30), y_ = (([(⟨1, (⟨#[112]⟩ : ByteArray), (⟨#[]⟩ : ByteArray), x7_1, false⟩ : S30)] : List (S30))) := ⟨_, rfl⟩
       replace H : ((stolelaw0_SameTokens.f t265 y270).bind fun t273 => (some t273)) = some r := by first | (rw [hy270]; with_reducible exact H) | (have H2_ := (Option.bind_some _ _).symm.trans H; rw [hy270]; with_reducible exact H2_) | (have H2_ := (Option.bind_some _ _).symm.trans H; with_reducible exact H2_) | with_reducible exact H | (rw [hy270]; exact H) | exact H
       have Ny270 := Aside0.mk hy270
       clear hy270
       replace H := Option.bind_eq_some_iff.mp H
       obtain ⟨t273, A340, H⟩ := H
       replace H : (some t273) = some r := H
       have A34 := Aside0.mk A340
       clear A340
       obtain rfl := Option.some.inj H
       go_wp2_with (first | ((with_reducible refine gate_callee (f := 11) rfl ?_); refine goesL_ (some 54) rfl rfl Tryd.func11 (by kernel_rfl) rfl #[.string (x6_1 ++ (⟨#[62]⟩ : ByteArray))] rfl (by (try simp only [List.map_toArray, List.map_cons, List.map_nil]); first | done | rfl | (simp only [List.length_drop, List.length_take]; rfl)) ?_; (with_reducible refine (tok_Tokens.calls (x6_1 ++ (⟨#[62]⟩ : ByteArray)) t265 t266 _ (tabs_below HT.out (by repeat (first | (with_reducible first | exact HB.out | apply below_alloc | apply pw_below_drewN | apply below_drew1) | exact HB.out))) A31.out).mono ?_); rintro e w35 ⟨v267, rfl, ho0, hb⟩; refine ⟨_, rfl, ?_⟩; have n0_ := Aside0.mk (Kd.R_below (by (with_reducible repeat (first | apply Kd.R_alloc | apply Kd.R_drewN | apply Kd.R_drew)); exact HO_7.out) hb); have n1_ := Aside0.mk (Kd.N_lower (Kd.N_mono (ok' := fun k_ => some k_ ≠ (u7 : Value).ownBlock) (Kd.S_N (Kd.S_bound ho0)) (fun k_ hk_ => (Kd.fresh' (Kd.R_lt (by (with_reducible repeat (first | apply Kd.R_alloc | apply Kd.R_drewN | apply Kd.R_drew)); exact HO_7.out)) k_ hk_.2.1))) (below_size (by repeat (first | (with_reducible first | exact HB.out | apply below_alloc | apply pw_below_drewN | apply below_drew1) | exact HB.out)))); have n2_ := Aside0.mk (below_step (by repeat (first | (with_reducible first | exact HB.out | apply below_alloc | apply pw_below_drewN | apply below_drew1) | exact HB.out)) hb); clear HO_7; clear HB; have HO_7 := n0_; have HO268 := n1_; have HB := n2_; clear n0_ n1_ n2_; (try clear hb); (try clear hb2); (try clear hk); (try clear hi); (try clear ho0)) | ((with_reducible refine gate_callee (f := 12) rfl ?_); refine goesL_ (some 58) rfl rfl Tryd.func12 (by kernel_rfl) rfl #[.int .i64 t266] rfl (by (try simp only [List.map_toArray, List.map_cons, List.map_nil]); first | done | rfl | (simp only [List.length_drop, List.length_take]; rfl)) ?_; (with_reducible refine (stolelaw0_Num.calls t266 t269 _ A32.out).mono ?_); rintro e w' ⟨rfl, ⟨nd, rfl⟩⟩; refine ⟨_, rfl, ?_⟩; obtain ⟨Ao36, co36, eo36⟩ := Kd.R_slice HO_7.out; subst eo36) | ((with_reducible refine gate_dst (N := 64) rfl ?_); (try (refine gate_guard (by rfl) ?_; dsimp only)); refine Kd.N_lit k30 _ 30 ?hg (N' := 64) ?hd (xs := ([(⟨1, (⟨#[112]⟩ : ByteArray), (⟨#[]⟩ : ByteArray), x7_1, false⟩ : S30)] : List (S30))) (inner := [.int .i64 1, .string (⟨#[112]⟩ : ByteArray), .string (⟨#[]⟩ : ByteArray), .slice Ao36 x7_1.length co36, .bool false]) (ok := (fun k_ => some k_ ≠ (v267 : Value).ownBlock)) (okp := (fun k_ => some k_ ≠ (v267 : Value).ownBlock)) ?hr ?hp (fun _ hk => hk) ((show ∀ k_, w35.heap.size ≤ k_ → (fun k_ => some k_ ≠ (v267 : Value).ownBlock) k_ from fun k_ hk => Kd.fresh' (Kd.N_lt (by (with_reducible repeat (first | apply Kd.N_alloc | apply Kd.N_drewN | apply Kd.N_drew)); exact HO268.out)) k_ hk) _ (Nat.le_refl _)) (Below.refl _ _) (Nat.le_refl _) (by simp) ?_; (case hd => rfl); (case hg => rfl); (case hr => first | (go_simp; done) | (go_simp; rfl)); (case hp => exact (Reps.c5 (show Kd.FK k30 _ _ (⟨1, (⟨#[112]⟩ : ByteArray), (⟨#[]⟩ : ByteArray), x7_1, false⟩ : S30) [.int .i64 1, .string (⟨#[112]⟩ : ByteArray), .string (⟨#[]⟩ : ByteArray), .slice Ao36 x7_1.length co36, .bool false] from (k30_mkF _ _ (⟨1, (⟨#[112]⟩ : ByteArray), (⟨#[]⟩ : ByteArray), x7_1, false⟩ : S30) (Kd.R_reads' (Kd.R_mono (ok' := (fun k_ => some k_ ≠ (v267 : Value).ownBlock)) (Kd.R_apart' (HO_7.out) (Kd.N_typed HO268.out) (by decide)) (fun k_ hk => hk.2))).2.1 (Kd.R_F (Kd.R_mono (ok' := (fun k_ => some k_ ≠ (v267 : Value).ownBlock)) (Kd.R_apart' (HO_7.out) (Kd.N_typed HO268.out) (by decide)) (fun k_ hk => hk.2))))) (Reps.none _ _))); intro v271 w37 ho38 hb hg_ hnew_; clear hg_ hnew_; (first | rw [← Ny270.out] at ho38 | (simp only [Int.reduceToNat] at ho38; rw [← Ny270.out] at ho38)); have n0_ := Aside0.mk (Kd.N_elder' (by (with_reducible repeat (first | apply Kd.N_alloc | apply Kd.N_drewN | apply Kd.N_drew)); exact HO268.out) (Kd.N_base ho38) hb); have n1_ := Aside0.mk (Kd.N_lower ho38 (below_size (by repeat (first | (with_reducible first | exact HB.out | apply below_alloc | apply pw_below_drewN | apply below_drew1) | exact HB.out)))); have n2_ := Aside0.mk (below_step (by repeat (first | (with_reducible first | exact HB.out | apply below_alloc | apply pw_below_drewN | apply below_drew1) | exact HB.out)) hb); clear HO268; clear HB; clear HO_7; have HO268 := n0_; have HO272 := n1_; have HB := n2_; clear n0_ n1_ n2_; clear hb ho38; obtain ⟨Ao39, co39, eo39⟩ := Kd.N_slice HO268.out; subst eo39; obtain ⟨Ao40, co40, eo40⟩ := Kd.N_slice HO272.out; subst eo40) | (go_at_call 14; (with_reducible refine (stolelaw0_SameTokens.calls _ _ t265 _ _ y270 t273 _ ?side1 ?side2 ?side3 ?side4 A34.out).mono ?_); (case side1 => repeat (first | exact (Kd.N_reads' HO268.out).2.2 | (with_reducible refine Kd.C_alloc ?_ _) | (with_reducible refine Kd.C_drewN ?_ _) | (with_reducible refine Kd.C_drew ?_))); (case side2 => exact (Kd.N_reads' HO268.out).2.1); (case side3 => repeat (first | exact (Kd.N_reads' HO272.out).2.2 | (with_reducible refine Kd.C_alloc ?_ _) | (with_reducible refine Kd.C_drewN ?_ _) | (with_reducible refine Kd.C_drew ?_))); (case side4 => exact (Kd.N_reads' HO272.out).2.1); rintro e w' ⟨rfl, ⟨nd, rfl⟩⟩))
       go_ret
       exact ⟨by first | rfl | (simp [errW_none, errW_some] <;> rfl) | (simp [*, errW_none, errW_some] <;> rfl), by repeat (first | (with_reducible first | exact HB.out | apply below_alloc | apply pw_below_drewN | apply below_drew1) | exact HB.out)⟩
      ·rw [if_neg c33] at H
       have c33b0 : (t269 == 0) = false := beq_eq_false_iff_ne.mpr c33
       have c33b1 : (t269 != 0) = true := bne_iff_ne.mpr c33
       obtain rfl := Option.some.inj H
       exact absurd hr (by simp)
     ·rw [if_neg c30] at H
      exact absurd H (by simp)
 ·replace c4 := Bool.eq_false_iff.mpr c4
  subst c4
  have H1 : (some false) = some r := by rw [if_neg (show ¬ (false = true) by decide)] at H; exact H
  clear H
  have H := H1
  clear H1
  obtain rfl := Option.some.inj H
  exact absurd hr (by simp)
/-- THE ONE PURE STATEMENT of stolelaw5_TokenMany: yours. -/
def stolelaw5_TokenMany.Pure : Prop := ∀ (a0 : Int) (a1 : Int), (Lit.int .i64 a0).wf = true → (Lit.int .i64 a1).wf = true → ∃ k, stolelaw5_TokenMany.f k a0 a1 = some true
theorem stolelaw5_TokenMany.walk (P : stolelaw5_TokenMany.Pure) (a0 : Int) (a1 : Int) (w : World) (hT : Tabs w) (w0 : (Lit.int .i64 a0).wf = true) (w1 : (Lit.int .i64 a1).wf = true) :
  Calls Tryd.prog 8 #[.int .i64 a0, .int .i64 a1] w fun e w' => e = .returned (.bool true) ∧ Below w.heap.size w w' := by
 obtain ⟨k, h⟩ := P a0 a1 w0 w1
 refine (stolelaw5_TokenMany.calls k a0 a1 true w hT h rfl).mono ?_
 rintro e w' ⟨rfl, hd⟩
 exact ⟨rfl, hd⟩
/-! ### stolelaw5_TokenNames: function 9 -/
end Go.Proofs.YtgbaakopneldaaaDoor.XL
end
section
namespace Go.Proofs.YtgbaakopneldaaaDoor.P5
open Go.RowKit Go.Proofs.YtgbaakopneldaaaDoor.XK Go.Proofs.YtgbaakopneldaaaDoor.XL Go.Proofs.YtgbaakopneldaaaDoor.Tk Go.Proofs.YtgbaakopneldaaaDoor.ExtM Go.Proofs.YtgbaakopneldaaaDoor.Base Go.Proofs.YtgbaakopneldaaaDoorW.PrintWords Go.Proofs.YtgbaakopneldaaaDoorW.PrintLast Go.Proofs.YtgbaakopneldaaaDoorW.PrintMore
set_option linter.unusedVariables false
set_option linter.unusedSimpArgs false
set_option maxRecDepth 100000
theorem and_maskP (x : Int) (i : Nat) (hi : i ≤ 62) : Go.bits .and .i64 x (2 ^ i - 1) = x % 2 ^ i := by
  have hpos : 0 < 2 ^ i := Nat.two_pow_pos i
  have hlt : 2 ^ i ≤ 2 ^ 62 := Nat.pow_le_pow_right (by decide) hi
  have hc : ((2 : Int) ^ i - 1) = ((2 ^ i - 1 : Nat) : Int) := by
    rw [Int.natCast_sub hpos]; simp
  have hm : (2 ^ i - 1) % 2 ^ IntKind.i64.bits = 2 ^ i - 1 := Nat.mod_eq_of_lt (by show 2 ^ i - 1 < 2 ^ 64; omega)
  have hd : (2 : Int) ^ i ∣ 2 ^ 64 := ⟨2 ^ (64 - i), by rw [← Int.pow_add]; congr 1; omega⟩
  have hx0 : 0 ≤ x % 2 ^ 64 := Int.emod_nonneg _ (by decide)
  have e : ((BitVec.ofInt IntKind.i64.bits x).toNat : Int) = x % 2 ^ 64 := by
    rw [BitVec.toNat_ofInt, Int.toNat_of_nonneg (by exact hx0)]; rfl
  have e2 : (((BitVec.ofInt IntKind.i64.bits x).toNat % 2 ^ i : Nat) : Int) = x % 2 ^ i := by
    rw [Int.natCast_emod, e]
    have : ((2 ^ i : Nat) : Int) = (2 : Int) ^ i := by simp
    rw [this, Int.emod_emod_of_dvd _ hd]
  rw [hc]
  simp only [Go.bits, BitVec.toNat_and, BitVec.ofInt_natCast, BitVec.toNat_ofNat]
  rw [hm, Nat.and_two_pow_sub_one_eq_mod, IntKind.wrap_i64, e2]
  have h0 : 0 ≤ x % 2 ^ i := Int.emod_nonneg _ (by have : (0:Int) < 2 ^ i := by exact_mod_cast hpos
                                                   omega)
  have h1 : x % 2 ^ i < 2 ^ i := Int.emod_lt_of_pos _ (by exact_mod_cast hpos)
  have h2 : (2 : Int) ^ i ≤ 2 ^ 62 := by exact_mod_cast hlt
  omega
theorem many63 (x : Int) : ∃ n : Nat, n < 64 ∧ wrap64 (1 + (Go.bits .and .i64 x 63)) = ((n : Int) + 1) := by
  have h := and_maskP x 6 (by decide)
  have h2 : Go.bits .and .i64 x 63 = x % 64 := by simpa using h
  refine ⟨(x % 64).toNat, by omega, ?_⟩
  rw [h2]; unfold wrap64; omega
end Go.Proofs.YtgbaakopneldaaaDoor.P5
end
section
namespace Go.Proofs.YtgbaakopneldaaaDoor.P5
open Go.RowKit Go.Proofs.YtgbaakopneldaaaDoor.XK Go.Proofs.YtgbaakopneldaaaDoor.XL Go.Proofs.YtgbaakopneldaaaDoor.Tk Go.Proofs.YtgbaakopneldaaaDoor.ExtM Go.Proofs.YtgbaakopneldaaaDoor.Base Go.Proofs.YtgbaakopneldaaaDoorW.PrintWords Go.Proofs.YtgbaakopneldaaaDoorW.PrintLast Go.Proofs.YtgbaakopneldaaaDoorW.PrintMore
open Go.Proofs.YtgbaakopneldaaaDoor.Ln (linesB linesL lines_none)
set_option linter.unusedVariables false
set_option linter.unusedSimpArgs false
set_option maxRecDepth 100000
def dL (i : Nat) : List UInt8 := if i < 10 then [UInt8.ofNat (48 + i)] else [UInt8.ofNat (48 + i / 10), UInt8.ofNat (48 + i % 10)]
def an (i : Nat) : ByteArray := bts (97 :: dL i)
def manySt (x : Int) (a : ByteArray) : St := ⟨x, ⟨#[112]⟩, false, a, ⟨#[]⟩, 0⟩
def Shape (st : St) : Prop := st = manySt 3 ⟨#[]⟩ ∨ (∃ a, st = manySt 10 a) ∨ st = manySt 11 ⟨#[]⟩
theorem many_space {st : St} (h : Shape st) (p : List UInt8) (ats : List S47) (cur : Option S47) : stepM ⟨st, [], [], p, ⟨#[]⟩, ats, cur⟩ 32 = ⟨manySt 4 ⟨#[]⟩, [], [], p ++ [32], ⟨#[]⟩, ats, cur⟩ := by
  rcases h with rfl | ⟨a, rfl⟩ | rfl <;> kernel_rfl
theorem many_close {st : St} (h : Shape st) (p : List UInt8) (ats : List S47) (cur : Option S47) : endM (runM ⟨st, [], [], p, ⟨#[]⟩, ats, cur⟩ [62]) = [⟨1, ⟨#[112]⟩, ⟨#[]⟩, keptR (ats ++ cur.toList), false⟩] := by
  rcases h with rfl | ⟨a, rfl⟩ | rfl <;> kernel_rfl
def pn (p l : List UInt8) : List UInt8 := l.foldl (fun p c => p ++ [c]) p
theorem many_attr (p : List UInt8) (ats : List S47) (cur : Option S47) : ∀ i, i < 64 →
    runM ⟨manySt 4 ⟨#[]⟩, [], [], p, ⟨#[]⟩, ats, cur⟩ ([65] ++ dL i ++ [61] ++ dL i) = ⟨manySt 10 (an i), [], [], pn p ([65] ++ dL i ++ [61] ++ dL i), ⟨#[]⟩, ats ++ cur.toList, some ⟨an i, bts (dL i)⟩⟩
  | 0, _ => by kernel_rfl
  | 1, _ => by kernel_rfl
  | 2, _ => by kernel_rfl
  | 3, _ => by kernel_rfl
  | 4, _ => by kernel_rfl
  | 5, _ => by kernel_rfl
  | 6, _ => by kernel_rfl
  | 7, _ => by kernel_rfl
  | 8, _ => by kernel_rfl
  | 9, _ => by kernel_rfl
  | 10, _ => by kernel_rfl
  | 11, _ => by kernel_rfl
  | 12, _ => by kernel_rfl
  | 13, _ => by kernel_rfl
  | 14, _ => by kernel_rfl
  | 15, _ => by kernel_rfl
  | 16, _ => by kernel_rfl
  | 17, _ => by kernel_rfl
  | 18, _ => by kernel_rfl
  | 19, _ => by kernel_rfl
  | 20, _ => by kernel_rfl
  | 21, _ => by kernel_rfl
  | 22, _ => by kernel_rfl
  | 23, _ => by kernel_rfl
  | 24, _ => by kernel_rfl
  | 25, _ => by kernel_rfl
  | 26, _ => by kernel_rfl
  | 27, _ => by kernel_rfl
  | 28, _ => by kernel_rfl
  | 29, _ => by kernel_rfl
  | 30, _ => by kernel_rfl
  | 31, _ => by kernel_rfl
  | 32, _ => by kernel_rfl
  | 33, _ => by kernel_rfl
  | 34, _ => by kernel_rfl
  | 35, _ => by kernel_rfl
  | 36, _ => by kernel_rfl
  | 37, _ => by kernel_rfl
  | 38, _ => by kernel_rfl
  | 39, _ => by kernel_rfl
  | 40, _ => by kernel_rfl
  | 41, _ => by kernel_rfl
  | 42, _ => by kernel_rfl
  | 43, _ => by kernel_rfl
  | 44, _ => by kernel_rfl
  | 45, _ => by kernel_rfl
  | 46, _ => by kernel_rfl
  | 47, _ => by kernel_rfl
  | 48, _ => by kernel_rfl
  | 49, _ => by kernel_rfl
  | 50, _ => by kernel_rfl
  | 51, _ => by kernel_rfl
  | 52, _ => by kernel_rfl
  | 53, _ => by kernel_rfl
  | 54, _ => by kernel_rfl
  | 55, _ => by kernel_rfl
  | 56, _ => by kernel_rfl
  | 57, _ => by kernel_rfl
  | 58, _ => by kernel_rfl
  | 59, _ => by kernel_rfl
  | 60, _ => by kernel_rfl
  | 61, _ => by kernel_rfl
  | 62, _ => by kernel_rfl
  | 63, _ => by kernel_rfl
  | n + 64, h => absurd h (by omega)
theorem many_dup (p : List UInt8) (ats : List S47) (cur : Option S47) : ∀ i, i < 64 →
    runM ⟨manySt 4 ⟨#[]⟩, [], [], p, ⟨#[]⟩, ats, cur⟩ ([97] ++ dL i ++ [61, 39, 120, 39]) = ⟨manySt 11 ⟨#[]⟩, [], [], pn p ([97] ++ dL i ++ [61, 39, 120, 39]), ⟨#[]⟩, ats ++ cur.toList, some ⟨an i, bts [120]⟩⟩
  | 0, _ => by kernel_rfl
  | 1, _ => by kernel_rfl
  | 2, _ => by kernel_rfl
  | 3, _ => by kernel_rfl
  | 4, _ => by kernel_rfl
  | 5, _ => by kernel_rfl
  | 6, _ => by kernel_rfl
  | 7, _ => by kernel_rfl
  | 8, _ => by kernel_rfl
  | 9, _ => by kernel_rfl
  | 10, _ => by kernel_rfl
  | 11, _ => by kernel_rfl
  | 12, _ => by kernel_rfl
  | 13, _ => by kernel_rfl
  | 14, _ => by kernel_rfl
  | 15, _ => by kernel_rfl
  | 16, _ => by kernel_rfl
  | 17, _ => by kernel_rfl
  | 18, _ => by kernel_rfl
  | 19, _ => by kernel_rfl
  | 20, _ => by kernel_rfl
  | 21, _ => by kernel_rfl
  | 22, _ => by kernel_rfl
  | 23, _ => by kernel_rfl
  | 24, _ => by kernel_rfl
  | 25, _ => by kernel_rfl
  | 26, _ => by kernel_rfl
  | 27, _ => by kernel_rfl
  | 28, _ => by kernel_rfl
  | 29, _ => by kernel_rfl
  | 30, _ => by kernel_rfl
  | 31, _ => by kernel_rfl
  | 32, _ => by kernel_rfl
  | 33, _ => by kernel_rfl
  | 34, _ => by kernel_rfl
  | 35, _ => by kernel_rfl
  | 36, _ => by kernel_rfl
  | 37, _ => by kernel_rfl
  | 38, _ => by kernel_rfl
  | 39, _ => by kernel_rfl
  | 40, _ => by kernel_rfl
  | 41, _ => by kernel_rfl
  | 42, _ => by kernel_rfl
  | 43, _ => by kernel_rfl
  | 44, _ => by kernel_rfl
  | 45, _ => by kernel_rfl
  | 46, _ => by kernel_rfl
  | 47, _ => by kernel_rfl
  | 48, _ => by kernel_rfl
  | 49, _ => by kernel_rfl
  | 50, _ => by kernel_rfl
  | 51, _ => by kernel_rfl
  | 52, _ => by kernel_rfl
  | 53, _ => by kernel_rfl
  | 54, _ => by kernel_rfl
  | 55, _ => by kernel_rfl
  | 56, _ => by kernel_rfl
  | 57, _ => by kernel_rfl
  | 58, _ => by kernel_rfl
  | 59, _ => by kernel_rfl
  | 60, _ => by kernel_rfl
  | 61, _ => by kernel_rfl
  | 62, _ => by kernel_rfl
  | 63, _ => by kernel_rfl
  | n + 64, h => absurd h (by omega)
def wantL : Nat → List S47
  | 0 => []
  | k + 1 => if k < 32 then wantL k ++ [⟨an k, bts (dL k)⟩] else wantL k
theorem keep_want : ∀ k, k < 64 → keepA (wantL k) ⟨an k, bts (dL k)⟩ = wantL (k + 1) ∧ keepA (wantL (k + 1)) ⟨an k, bts [120]⟩ = wantL (k + 1)
  | 0, _ => ⟨by kernel_rfl, by kernel_rfl⟩
  | 1, _ => ⟨by kernel_rfl, by kernel_rfl⟩
  | 2, _ => ⟨by kernel_rfl, by kernel_rfl⟩
  | 3, _ => ⟨by kernel_rfl, by kernel_rfl⟩
  | 4, _ => ⟨by kernel_rfl, by kernel_rfl⟩
  | 5, _ => ⟨by kernel_rfl, by kernel_rfl⟩
  | 6, _ => ⟨by kernel_rfl, by kernel_rfl⟩
  | 7, _ => ⟨by kernel_rfl, by kernel_rfl⟩
  | 8, _ => ⟨by kernel_rfl, by kernel_rfl⟩
  | 9, _ => ⟨by kernel_rfl, by kernel_rfl⟩
  | 10, _ => ⟨by kernel_rfl, by kernel_rfl⟩
  | 11, _ => ⟨by kernel_rfl, by kernel_rfl⟩
  | 12, _ => ⟨by kernel_rfl, by kernel_rfl⟩
  | 13, _ => ⟨by kernel_rfl, by kernel_rfl⟩
  | 14, _ => ⟨by kernel_rfl, by kernel_rfl⟩
  | 15, _ => ⟨by kernel_rfl, by kernel_rfl⟩
  | 16, _ => ⟨by kernel_rfl, by kernel_rfl⟩
  | 17, _ => ⟨by kernel_rfl, by kernel_rfl⟩
  | 18, _ => ⟨by kernel_rfl, by kernel_rfl⟩
  | 19, _ => ⟨by kernel_rfl, by kernel_rfl⟩
  | 20, _ => ⟨by kernel_rfl, by kernel_rfl⟩
  | 21, _ => ⟨by kernel_rfl, by kernel_rfl⟩
  | 22, _ => ⟨by kernel_rfl, by kernel_rfl⟩
  | 23, _ => ⟨by kernel_rfl, by kernel_rfl⟩
  | 24, _ => ⟨by kernel_rfl, by kernel_rfl⟩
  | 25, _ => ⟨by kernel_rfl, by kernel_rfl⟩
  | 26, _ => ⟨by kernel_rfl, by kernel_rfl⟩
  | 27, _ => ⟨by kernel_rfl, by kernel_rfl⟩
  | 28, _ => ⟨by kernel_rfl, by kernel_rfl⟩
  | 29, _ => ⟨by kernel_rfl, by kernel_rfl⟩
  | 30, _ => ⟨by kernel_rfl, by kernel_rfl⟩
  | 31, _ => ⟨by kernel_rfl, by kernel_rfl⟩
  | 32, _ => ⟨by kernel_rfl, by kernel_rfl⟩
  | 33, _ => ⟨by kernel_rfl, by kernel_rfl⟩
  | 34, _ => ⟨by kernel_rfl, by kernel_rfl⟩
  | 35, _ => ⟨by kernel_rfl, by kernel_rfl⟩
  | 36, _ => ⟨by kernel_rfl, by kernel_rfl⟩
  | 37, _ => ⟨by kernel_rfl, by kernel_rfl⟩
  | 38, _ => ⟨by kernel_rfl, by kernel_rfl⟩
  | 39, _ => ⟨by kernel_rfl, by kernel_rfl⟩
  | 40, _ => ⟨by kernel_rfl, by kernel_rfl⟩
  | 41, _ => ⟨by kernel_rfl, by kernel_rfl⟩
  | 42, _ => ⟨by kernel_rfl, by kernel_rfl⟩
  | 43, _ => ⟨by kernel_rfl, by kernel_rfl⟩
  | 44, _ => ⟨by kernel_rfl, by kernel_rfl⟩
  | 45, _ => ⟨by kernel_rfl, by kernel_rfl⟩
  | 46, _ => ⟨by kernel_rfl, by kernel_rfl⟩
  | 47, _ => ⟨by kernel_rfl, by kernel_rfl⟩
  | 48, _ => ⟨by kernel_rfl, by kernel_rfl⟩
  | 49, _ => ⟨by kernel_rfl, by kernel_rfl⟩
  | 50, _ => ⟨by kernel_rfl, by kernel_rfl⟩
  | 51, _ => ⟨by kernel_rfl, by kernel_rfl⟩
  | 52, _ => ⟨by kernel_rfl, by kernel_rfl⟩
  | 53, _ => ⟨by kernel_rfl, by kernel_rfl⟩
  | 54, _ => ⟨by kernel_rfl, by kernel_rfl⟩
  | 55, _ => ⟨by kernel_rfl, by kernel_rfl⟩
  | 56, _ => ⟨by kernel_rfl, by kernel_rfl⟩
  | 57, _ => ⟨by kernel_rfl, by kernel_rfl⟩
  | 58, _ => ⟨by kernel_rfl, by kernel_rfl⟩
  | 59, _ => ⟨by kernel_rfl, by kernel_rfl⟩
  | 60, _ => ⟨by kernel_rfl, by kernel_rfl⟩
  | 61, _ => ⟨by kernel_rfl, by kernel_rfl⟩
  | 62, _ => ⟨by kernel_rfl, by kernel_rfl⟩
  | 63, _ => ⟨by kernel_rfl, by kernel_rfl⟩
  | n + 64, h => absurd h (by omega)
theorem want_len : ∀ k, (wantL k).length ≤ k
  | 0 => Nat.le_refl _
  | k + 1 => by
    have := want_len k
    unfold wantL
    split
    · rw [List.length_append, List.length_singleton]; omega
    · omega
def rawL (tw : Nat → Bool) : Nat → List S47
  | 0 => []
  | k + 1 => if tw k = true then (rawL tw k ++ [⟨an k, bts (dL k)⟩]) ++ [⟨an k, bts [120]⟩] else rawL tw k ++ [⟨an k, bts (dL k)⟩]
def pageL (tw : Nat → Bool) : Nat → List UInt8
  | 0 => [60, 112]
  | k + 1 => if tw k = true then (pageL tw k ++ ([32] ++ ([65] ++ dL k ++ [61] ++ dL k))) ++ ([32] ++ ([97] ++ dL k ++ [61, 39, 120, 39])) else pageL tw k ++ ([32] ++ ([65] ++ dL k ++ [61] ++ dL k))
theorem kept_app (xs : List S47) (a : S47) : keptR (xs ++ [a]) = keepA (keptR xs) a := by unfold keptR; rw [List.foldl_append]; rfl
theorem kept_raw (tw : Nat → Bool) : ∀ k, k ≤ 64 → keptR (rawL tw k) = wantL k
  | 0, _ => rfl
  | k + 1, h => by
    have ih := kept_raw tw k (by omega)
    obtain ⟨h1, h2⟩ := keep_want k (by omega)
    unfold rawL
    split
    · rw [kept_app, kept_app, ih, h1, h2]
    · rw [kept_app, ih, h1]
theorem dL_ok : ∀ i : Fin 64, (∀ x ∈ dL i.1, x ≠ 13) ∧ (dL i.1).length ≤ 2 := by decide +kernel
theorem page_ok (tw : Nat → Bool) : ∀ k, k ≤ 64 → (∀ x ∈ pageL tw k, x ≠ 13) ∧ (pageL tw k).length ≤ 2 + 15 * k
  | 0, _ => ⟨by unfold pageL; decide, by unfold pageL; decide⟩
  | k + 1, h => by
    obtain ⟨i1, i2⟩ := page_ok tw k (by omega)
    obtain ⟨d1, d2⟩ := dL_ok ⟨k, by omega⟩
    simp only at d1 d2
    unfold pageL
    split
    · refine ⟨?_, ?_⟩
      · intro x hx
        simp only [List.mem_append, List.mem_cons, List.not_mem_nil, or_false] at hx
        rcases hx with (hx | hx | (((hx | hx) | hx) | hx)) | hx | ((hx | hx) | hx)
        · exact i1 x hx
        · subst hx; decide
        · subst hx; decide
        · exact d1 x hx
        · subst hx; decide
        · exact d1 x hx
        · subst hx; decide
        · subst hx; decide
        · exact d1 x hx
        · rcases hx with rfl | rfl | rfl | rfl <;> decide
      · simp only [List.length_append, List.length_cons, List.length_nil]; omega
    · refine ⟨?_, ?_⟩
      · intro x hx
        simp only [List.mem_append, List.mem_cons, List.not_mem_nil, or_false] at hx
        rcases hx with hx | hx | (((hx | hx) | hx) | hx)
        · exact i1 x hx
        · subst hx; decide
        · subst hx; decide
        · exact d1 x hx
        · subst hx; decide
        · exact d1 x hx
      · simp only [List.length_append, List.length_cons, List.length_nil]; omega
theorem round1 {st : St} (h : Shape st) (p : List UInt8) (ats : List S47) (cur : Option S47) (k : Nat) (hk : k < 64) : runM ⟨st, [], [], p, ⟨#[]⟩, ats, cur⟩ ([32] ++ ([65] ++ dL k ++ [61] ++ dL k)) = ⟨manySt 10 (an k), [], [], pn (p ++ [32]) ([65] ++ dL k ++ [61] ++ dL k), ⟨#[]⟩, ats ++ cur.toList, some ⟨an k, bts (dL k)⟩⟩ := by
  show runM (stepM _ 32) _ = _
  rw [many_space h]
  exact many_attr _ _ _ k hk
theorem round2 {st : St} (h : Shape st) (p : List UInt8) (ats : List S47) (cur : Option S47) (k : Nat) (hk : k < 64) : runM ⟨st, [], [], p, ⟨#[]⟩, ats, cur⟩ ([32] ++ ([97] ++ dL k ++ [61, 39, 120, 39])) = ⟨manySt 11 ⟨#[]⟩, [], [], pn (p ++ [32]) ([97] ++ dL k ++ [61, 39, 120, 39]), ⟨#[]⟩, ats ++ cur.toList, some ⟨an k, bts [120]⟩⟩ := by
  show runM (stepM _ 32) _ = _
  rw [many_space h]
  exact many_dup _ _ _ k hk
theorem many_run (tw : Nat → Bool) : ∀ k, k ≤ 64 → ∃ st p ats cur, Shape st ∧ runM m0 (pageL tw k) = ⟨st, [], [], p, ⟨#[]⟩, ats, cur⟩ ∧ ats ++ cur.toList = rawL tw k
  | 0, _ => ⟨manySt 3 ⟨#[]⟩, [60, 112], [], none, Or.inl rfl, by kernel_rfl, rfl⟩
  | k + 1, h => by
    obtain ⟨st, p, ats, cur, hs, hr, ha⟩ := many_run tw k (by omega)
    unfold pageL rawL
    split
    · refine ⟨manySt 11 ⟨#[]⟩, pn (pn (p ++ [32]) ([65] ++ dL k ++ [61] ++ dL k) ++ [32]) ([97] ++ dL k ++ [61, 39, 120, 39]), (ats ++ cur.toList) ++ [⟨an k, bts (dL k)⟩], some ⟨an k, bts [120]⟩, Or.inr (Or.inr rfl), ?_, ?_⟩
      · rw [run_app m0, run_app m0, hr, round1 hs _ _ _ k (by omega), round2 (Or.inr (Or.inl ⟨_, rfl⟩)) _ _ _ k (by omega)]
        rfl
      · rw [ha]; rfl
    · refine ⟨manySt 10 (an k), pn (p ++ [32]) ([65] ++ dL k ++ [61] ++ dL k), ats ++ cur.toList, some ⟨an k, bts (dL k)⟩, Or.inr (Or.inl ⟨_, rfl⟩), ?_, ?_⟩
      · rw [run_app m0, hr, round1 hs _ _ _ k (by omega)]
      · rw [ha]; rfl
theorem many_toks (tw : Nat → Bool) (k : Nat) (h : k ≤ 64) : tokensM (pageL tw k ++ [62]) = ([⟨1, ⟨#[112]⟩, ⟨#[]⟩, wantL k, false⟩], 0) := by
  obtain ⟨h1, h2⟩ := page_ok tw k h
  unfold tokensM
  rw [if_neg (by rw [List.length_append, List.length_singleton]; omega), lines_none _ (by
    intro x hx
    rcases List.mem_append.1 hx with hx | hx
    · exact h1 x hx
    · have : x = 62 := by simpa using hx
      subst this; decide)]
  obtain ⟨st, p, ats, cur, hs, hr, ha⟩ := many_run tw k h
  rw [run_app, hr, many_close hs, ha, kept_raw tw k h]
theorem same_ok (a b : List S30) (h : a = b) (hs : ∀ x ∈ a, x.f3.length ≤ 4611686018427387904) : stolelaw0_SameTokens.f a b = some true := by
  unfold stolelaw0_SameTokens.f
  rw [if_pos (List.all_eq_true.2 fun x hx => decide_eq_true (hs x hx)), (Tr.allEq_eq Tr.tokEq_iff).2 h]
theorem decimal_all : ∀ i : Fin 64, stoleref0_Decimal.f 20 ((i.1 : Nat) : Int) = some (bts (dL i.1)) := by decide +kernel
theorem decimal_ev (i : Nat) (h : i < 64) : Ev (fun k => stoleref0_Decimal.f k ((i : Nat) : Int)) (bts (dL i)) := Ev.of (fun k => stoleref0_Decimal.mono _ k) (decimal_all ⟨i, h⟩)
def twice (x1 : Int) (k : Nat) : Bool := decide ((Go.bits .and .i64 (shr .i64 x1 (Go.bits .and .i64 ((k : Nat) : Int) 15)) 1) = 1)
theorem and15P (k : Nat) : 0 ≤ Go.bits .and .i64 ((k : Nat) : Int) 15 := by
  have h := and_maskP ((k : Nat) : Int) 4 (by decide)
  have h2 : Go.bits .and .i64 ((k : Nat) : Int) 15 = ((k : Nat) : Int) % 16 := by simpa using h
  omega
theorem many_go (x1 : Int) (n : Nat) (hn : n ≤ 64) : ∀ (d k : Nat) (x6 : ByteArray), k + d = n → x6.data.toList = pageL (twice x1) k → Ev (fun f => stolelaw5_TokenMany.l0 f x1 ((n : Nat) : Int) x6 (wantL k) ((k : Nat) : Int)) true := by
  intro d
  induction d with
  | zero =>
    intro k x6 hk h6
    have hp := page_ok (twice x1) k (by omega)
    have hsz : x6.size = x6.data.toList.length := rfl
    rw [h6] at hsz
    refine Ev.step (f := fun f => _) (fun f => by rw [stolelaw5_TokenMany.l0]) ?_
    refine Ev.neg (by omega) (Ev.pos (by omega) ?_)
    refine Ev.bindC (toks_b _) ?_
    rw [show (x6 ++ (⟨#[62]⟩ : ByteArray)).data.toList = pageL (twice x1) k ++ [62] by rw [data_append, h6], many_toks _ k (by omega)]
    refine Ev.bindC rfl (Ev.pos rfl ?_)
    refine Ev.bindC (same_ok _ _ rfl ?_) (Ev.now true)
    intro x hx
    simp only [List.mem_cons, List.not_mem_nil, or_false] at hx
    subst hx
    have := want_len k
    show (wantL k).length ≤ _
    omega
  | succ d ih =>
    intro k x6 hk h6
    have hk64 : k < 64 := by omega
    have hp := page_ok (twice x1) k (by omega)
    have hsz : x6.size = x6.data.toList.length := rfl
    rw [h6] at hsz
    obtain ⟨d1, d2⟩ := dL_ok ⟨k, hk64⟩
    simp only at d1 d2
    have hz : (bts (dL k)).size = (dL k).length := by rw [← data_length, bts_data]
    have hwl := want_len k
    have hwr : wrap64 ((k : Int) + 1) = ((k + 1 : Nat) : Int) := wrap_next (n := 64) (by omega) (by decide)
    refine Ev.step (f := fun f => _) (fun f => by rw [stolelaw5_TokenMany.l0]) ?_
    refine Ev.pos (by omega) ?_
    refine Ev.bind (decimal_ev k hk64) ?_
    refine Ev.pos (by omega) (Ev.pos (by omega) (Ev.pos (by omega) (Ev.pos (by omega) (Ev.pos (and15P k) ?_))))
    rw [hwr]
    have han : (⟨#[97]⟩ : ByteArray) ++ bts (dL k) = an k := bts_eq (by rw [data_append, bts_data]; rfl)
    rw [han]
    by_cases ht : (Go.bits .and .i64 (shr .i64 x1 (Go.bits .and .i64 ((k : Nat) : Int) 15)) 1) = 1
    · have htw : twice x1 k = true := decide_eq_true ht
      refine Ev.pos ht (Ev.pos (by omega) (Ev.pos (by omega) (Ev.pos (by omega) ?_)))
      have hpg : (((((((x6 ++ (⟨#[32, 65]⟩ : ByteArray)) ++ bts (dL k)) ++ (⟨#[61]⟩ : ByteArray)) ++ bts (dL k)) ++ (⟨#[32, 97]⟩ : ByteArray)) ++ bts (dL k)) ++ (⟨#[61, 39, 120, 39]⟩ : ByteArray)).data.toList = pageL (twice x1) (k + 1) := by
        rw [pageL, if_pos htw]
        simp only [data_append, bts_data, h6, List.append_assoc, List.cons_append, List.nil_append]
      have hI := ih (k + 1) _ (by omega) hpg
      rw [wantL] at hI
      by_cases h32 : k < 32
      · rw [if_pos h32] at hI
        exact Ev.pos (by omega) (Ev.pos (by omega) (Ev.pos (by omega) hI))
      · rw [if_neg h32] at hI
        exact Ev.neg (by omega) hI
    · have htw : ¬ twice x1 k = true := by simpa [twice] using ht
      refine Ev.neg ht ?_
      have hpg : ((((x6 ++ (⟨#[32, 65]⟩ : ByteArray)) ++ bts (dL k)) ++ (⟨#[61]⟩ : ByteArray)) ++ bts (dL k)).data.toList = pageL (twice x1) (k + 1) := by
        rw [pageL, if_neg htw]
        simp only [data_append, bts_data, h6, List.append_assoc, List.cons_append, List.nil_append]
      have hI := ih (k + 1) _ (by omega) hpg
      rw [wantL] at hI
      by_cases h32 : k < 32
      · rw [if_pos h32] at hI
        exact Ev.pos (by omega) (Ev.pos (by omega) (Ev.pos (by omega) hI))
      · rw [if_neg h32] at hI
        exact Ev.neg (by omega) hI
theorem tokenMany_plain (a0 a1 : Int) (w0 : (Lit.int .i64 a0).wf = true) (w1 : (Lit.int .i64 a1).wf = true) : ∃ k, stolelaw5_TokenMany.f k a0 a1 = some true := by
  refine Ev.rounds ?_
  refine Ev.congr (f := fun k => _) (fun k => by rw [stolelaw5_TokenMany.f]) ?_
  refine Ev.bind awake_ev ?_
  refine Ev.pos rfl ?_
  obtain ⟨n, hn, e⟩ := many63 a0
  rw [e, show ((n : Int) + 1) = ((n + 1 : Nat) : Int) by omega]
  exact many_go a1 (n + 1) (by omega) (n + 1) 0 ⟨#[60, 112]⟩ (by omega) rfl
end Go.Proofs.YtgbaakopneldaaaDoor.P5
end
section
namespace Go.Proofs.YtgbaakopneldaaaDoor.RowTokenMany
open Go.ChangeShapes Go.WideShapes Go.ChangeAt Go.RowKit Go.Proofs.YtgbaakopneldaaaDoorW.PrintWords Go.Proofs.YtgbaakopneldaaaDoorW.PrintLast Go.Proofs.YtgbaakopneldaaaDoor.ExtM
open Go.ChangeMaps (open_string shut_string)
set_option linter.unusedVariables false
theorem own : ownKnob Tryd.prog.godebug = none := by kernel_rfl
set_option maxRecDepth 100000 in
set_option maxHeartbeats 4000000 in
theorem contract (H : Type) (enc : TypeId × Value → H) (W : World) (base : Nat) (args : Array Value) (ds gs : List (DataW H)) (before : List MemPlace)
    (hval0 : ∀ (j : Nat) t v, Tryd.f8.params[j]? = some t → args[j]? = some v → Value.okWide Tryd.prog W .any base t v)
    (hW : DataW.Whole enc Tryd.prog Tryd.f8.params.toList Rows.tokenManySpec.vars false W args.toList ds gs before)
    (hsz0 : (DataW.weightsEach Tryd.prog (Tryd.f8.params.toList ++ Rows.tokenManySpec.plain.varTypes Tryd.prog) (ds ++ gs)).all (· ≤ reachBytes) = true)
    (hL : laidMetH Tryd.prog Rows.tokenManyRow.laid W)
    (hsh : W.ShapedOpen Tryd.prog)
    : Calls Tryd.prog 8 args W fun e W' => ∃ v, e = .returned v ∧ Rows.tokenManySpec.post enc Tryd.prog Tryd.f8 false true false false W args v W' := by
  have hsz : (DataW.weightsEach Tryd.prog (Tryd.f8.params.toList ++ Rows.tokenManySpec.plain.varTypes Tryd.prog) (ds ++ gs)).all (· ≤ reachBytes) = true := hsz0
  have hval : ∀ (j : Nat) t v, Tryd.f8.params[j]? = some t → args[j]? = some v → Value.okWide Tryd.prog W .any base t v := hval0
  have hW' := hW
  obtain ⟨p, q, hA0, hV, rfl, hfz, hnd⟩ := hW
  have hA : DataW.TrodAll enc Tryd.prog W 0 (fun _ => true) true Tryd.f8.params.toList args.toList ds p := hA0
  rw [Tryd.params8] at hA hval hsz
  obtain ⟨v0, vs0, d0, ds0, p0, q0, hargs, rfl, rfl, h0, r0⟩ := trodAll_cons hA
  obtain ⟨v1, vs1, d1, ds1, p1, q1, rfl, rfl, rfl, h1, r1⟩ := trodAll_cons r0
  obtain ⟨rfl, rfl, rfl⟩ := trodAll_nil r1
  obtain rfl : args = #[v0, v1] := by cases args; simp_all
  obtain ⟨rfl, rfl⟩ := trodVars_none hV
  obtain ⟨a0, rfl, rfl, rfl, w0⟩ := open_int Tryd.underlying3 (hval 0 3 v0 rfl rfl) h0
  obtain ⟨a1, rfl, rfl, rfl, w1⟩ := open_int Tryd.underlying3 (hval 1 3 v1 rfl rfl) h1
  clear hA0 hval0 hsz0 hsz hval
  have hT : Tabs W := Tryd.laysM143.s1_3 W hsh
  obtain ⟨k, hk⟩ := P5.tokenMany_plain a0 a1 w0 w1
  refine (XL.stolelaw5_TokenMany.calls k a0 a1 true W hT hk rfl).mono fun e W' ⟨he, bel0⟩ => ?_
  have bel : Below W.heap.size W W' := bel0
  subst he
  simp only [List.append_nil] at hW'
  exact ⟨_, rfl, _, _, _, [], _, [], hW', trodAll_mk1 (shut_bool Tryd.underlying4 _), (trodAll_cons_mk (shut_int Tryd.underlying3 w0) (trodAll_cons_mk (shut_int Tryd.underlying3 w1) trodAll_mk0)), rfl, bel.frame _, fun h => by cases h⟩
theorem laid_met (os : Os) : laidMetH Tryd.prog Rows.tokenManyRow.laid ((World.laidAll Tryd.prog os Rows.tokenManyRow.laid).forCall (fun _ _ => 0) ⟨#[], #[.int .i64 0, .int .i64 0], []⟩).memory := by
  rw [MakeChecks.laidMetH_plain _ _ _ (by kernel_rfl)]
  exact laidMet_laidAll _ (by kernel_rfl) (by kernel_rfl)
theorem reads (os : Os) {H : Type} (enc : TypeId × Value → H) : ∃ places, DataW.whole enc Tryd.prog ((World.laidAll Tryd.prog os Rows.tokenManyRow.laid).forCall (fun _ _ => 0) ⟨#[], #[.int .i64 0, .int .i64 0], []⟩).memory Tryd.f8.params.toList Rows.tokenManySpec.vars false (#[.int .i64 0, .int .i64 0] : Array Value).toList 8 = some ([.lit (.int .i64 0), .lit (.int .i64 0)], [], places) :=
  ⟨[], by kernel_rfl⟩
set_option maxRecDepth 100000 in
theorem lifted (os : Os) (started : os.Started) (H : Type) (enc : TypeId × Value → H) (F : Stop.Interp) :
    ReturnsInHanded {} Tryd.checked os 8 .any ((OpenSpec.ofChange Rows.tokenManySpec).preRow enc Tryd.prog Tryd.f8 Rows.tokenManyRow.domain false Rows.tokenManyRow.laid) (((OpenSpec.ofChange Rows.tokenManySpec).at F).post enc Tryd.prog Tryd.f8 false true false false) := by
  obtain ⟨places, hx⟩ := reads os enc
  refine returnsInHanded_of_row (C := Tryd.checked) (s := (OpenSpec.ofChange Rows.tokenManySpec)) own started (by kernel_rfl) Tryd.func8
    (witness_row_at (enc := enc) (C := Tryd.checked) false (World.laidAll Tryd.prog os Rows.tokenManyRow.laid) #[.int .i64 0, .int .i64 0] (World.laidAll_os _ _ _) (by kernel_rfl) (by kernel_rfl) (by kernel_rfl)
      (OpenSpec.preRow_of_cond 8 hx (by kernel_rfl) (fun k hk => by cases hk) (by kernel_rfl) (laid_met os))) ?_
  intro W base args ds gs before hval hW hcnd hcond hsz hL hsh _
  exact contract H enc W base args ds gs before hval hW hsz hL hsh
theorem said : Rows.TokenManySaid :=
  OpenClaim.holds_of_cond 8 Tryd.f8 rfl rfl rfl rfl rfl rfl rfl ⟨rfl, rfl, rfl, rfl, rfl⟩ rfl rfl rfl rfl rfl (by kernel_rfl) Tryd.func8 (by kernel_rfl)
    (of_decide_eq_true (by kernel_rfl)) (by unfold Func.isWrapper; first | (rw [if_pos (by decide +kernel)]; kernel_rfl) | (rw [if_neg (by decide +kernel)]; exact ⟨rfl, rfl⟩))
    (fun os started H enc _ F => by rw [OpenClaim.pre_eq_preRow]; exact lifted os started H enc F)
theorem plain (f : FuncId) (fn : Func) (hf : Tryd.pinned.checked.prog.funcNamed "stole/stolelaw5.TokenMany" = some f) (hfn : Tryd.pinned.checked.prog.funcs[f]? = some fn) :
    false = Tryd.pinned.checked.prog.looks [] ∧ ∀ (j : Nat) t, fn.params[j]? = some t → Tryd.pinned.checked.prog.wantsStandIn t = false := by
  obtain rfl : f = 8 := Option.some.inj ((show Tryd.prog.funcNamed "stole/stolelaw5.TokenMany" = some 8 by kernel_rfl).symm.trans hf) |>.symm
  obtain rfl : fn = Tryd.f8 := (Option.some.inj (Tryd.func8.symm.trans hfn)).symm
  refine ⟨by kernel_rfl, fun j t ht => ?_⟩
  rw [Tryd.params8] at ht
  have hm := Array.mem_of_getElem? ht
  have hall : (#[3, 3] : Array TypeId).all (fun t => Tryd.prog.wantsStandIn t == false) = true := by kernel_rfl
  rw [Array.all_eq_true'] at hall
  exact eq_of_beq (hall t hm)
theorem proved : Rows.TokenManyCardSaid :=
  Claim7.holds_tied_plain_at .later [] _ _ _ _ said (fun _ h => by cases h) (by kernel_rfl) (fun _ h => by cases h) tokenMany_row_tie rfl ⟨rfl, rfl⟩ (by kernel_rfl) rfl plain (by kernel_rfl)
end Go.Proofs.YtgbaakopneldaaaDoor.RowTokenMany
namespace Go.Proofs.YtgbaakopneldaaaDoor
theorem tokenMany_holds : Rows.TokenManyCardSaid := RowTokenMany.proved
#print axioms tokenMany_holds
end Go.Proofs.YtgbaakopneldaaaDoor
end
