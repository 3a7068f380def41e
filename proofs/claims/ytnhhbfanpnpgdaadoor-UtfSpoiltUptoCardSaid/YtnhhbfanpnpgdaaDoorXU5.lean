/- Laid by xprint.py, a program of this session over the kit's print: for each Go function one Lean function of the same answers, and the walk that shows it. -/
import Derived.Test.YtnhhbfanpnpgdaaDoorXU0
import Derived.Test.YtnhhbfanpnpgdaaDoorXU1
import Derived.Test.YtnhhbfanpnpgdaaDoorXU3
namespace Go.Proofs.YtnhhbfanpnpgdaaDoor.XU
open Go.RowKit Go.Proofs.YtnhhbfanpnpgdaaDoor.Ext Go.Proofs.YtnhhbfanpnpgdaaDoorW.PrintWords Go.Proofs.YtnhhbfanpnpgdaaDoorW.PrintLast Go.Proofs.YtnhhbfanpnpgdaaDoorW.PrintMore
attribute [local go_sem] max2_int min2_int max_two min_two max_three min_three max_four min_four   -- for this text's walks alone
set_option linter.unusedVariables false
set_option linter.unusedSimpArgs false

/-! ### stolelaw1_UtfSigns: function 6 -/
mutual
def stolelaw1_UtfSigns.j0 : Nat → Int → Bool → Option (Bool)
 | 0, _, _ => none
 | k + 1, x3, x18 => if x18 = true then (some true) else (if x3 ≥ 65536 then (stolelaw1_UtfSigns.j1 k (([(Go.bits .or .i64 240 (x3 / 262144)) % 256, (Go.bits .or .i64 128 (Go.bits .and .i64 (x3 / 4096) 63)) % 256, (Go.bits .or .i64 128 (Go.bits .and .i64 (x3 / 64) 63)) % 256, (Go.bits .or .i64 128 (Go.bits .and .i64 x3 63)) % 256] : List Int))) else (if x3 ≥ 2048 then (stolelaw1_UtfSigns.j1 k (([(Go.bits .or .i64 224 (x3 / 4096)) % 256, (Go.bits .or .i64 128 (Go.bits .and .i64 (x3 / 64) 63)) % 256, (Go.bits .or .i64 128 (Go.bits .and .i64 x3 63)) % 256] : List Int))) else (if x3 ≥ 128 then (stolelaw1_UtfSigns.j1 k (([(Go.bits .or .i64 192 (x3 / 64)) % 256, (Go.bits .or .i64 128 (Go.bits .and .i64 x3 63)) % 256] : List Int))) else (stolelaw1_UtfSigns.j1 k (([(x3) % 256] : List Int))))))
def stolelaw1_UtfSigns.j1 : Nat → List Int → Option (Bool)
 | 0, _ => none
 | k + 1, x4 => if (strOfNums x4).size + 1 ≤ 9223372036854775807 then (if 0 ≤ (wrap64 (((strOfNums x4).size : Int) - 1)) then (if (wrap64 (((strOfNums x4).size : Int) - 1)) ≤ ((strOfNums x4).size : Int) then ((utf_May.f (strOfNums x4)).bind fun t162 => (if t162 = true then (if 1 + (strOfNums x4).size ≤ 9223372036854775807 then (if 1 + (strOfNums x4).size + 1 ≤ 9223372036854775807 then ((utf_May.f (((⟨#[97]⟩ : ByteArray) ++ (strOfNums x4)) ++ (⟨#[98]⟩ : ByteArray))).bind fun t163 => (if t163 = true then ((utf_Norm.f (strOfNums x4)).bind fun t164 => (if t164.toList = (strOfNums x4).toList then ((utf_May.f ((strOfNums x4) ++ (⟨#[128]⟩ : ByteArray))).bind fun t165 => (if t165 = true then (some false) else ((utf_Norm.f ((strOfNums x4) ++ (⟨#[128]⟩ : ByteArray))).bind fun t166 => (if (strOfNums x4).size + 3 ≤ 9223372036854775807 then (if t166.toList = ((strOfNums x4) ++ (⟨#[239, 191, 189]⟩ : ByteArray)).toList then ((utf_May.f ((strOfNums x4).extract 0 ((wrap64 (((strOfNums x4).size : Int) - 1)) : Int).toNat)).bind fun t167 => (if (t167 == ((x4.length : Int) == 1)) = true then (if ((strOfNums x4).extract 0 ((wrap64 (((strOfNums x4).size : Int) - 1)) : Int).toNat).size + 1 ≤ 9223372036854775807 then ((utf_Norm.f (((strOfNums x4).extract 0 ((wrap64 (((strOfNums x4).size : Int) - 1)) : Int).toNat) ++ (⟨#[122]⟩ : ByteArray))).bind fun t168 => (if (t168.size : Int) = (wrap64 ((wrap64 (3 * (((strOfNums x4).extract 0 ((wrap64 (((strOfNums x4).size : Int) - 1)) : Int).toNat).size : Int))) + 1)) then ((stolelaw0_Num.f 0).bind fun t169 => (some (t169 == 0))) else (some false))) else (none)) else (some false))) else (some false)) else (none))))) else (some false))) else (some false))) else (none)) else (none)) else (some false))) else (none)) else (none)) else (none)
end
def stolelaw1_UtfSigns.f (k : Nat) (a0 : Int) : Option (Bool) := (stolelaw1_awake.f).bind fun t149 => (if t149 = true then (if (wrap64 (1 + (Go.bits .and .i64 a0 1048575))) ≥ 55296 then (stolelaw1_UtfSigns.j0 k (wrap64 (1 + (Go.bits .and .i64 a0 1048575))) (decide ((wrap64 (1 + (Go.bits .and .i64 a0 1048575))) ≤ 57343))) else (stolelaw1_UtfSigns.j0 k (wrap64 (1 + (Go.bits .and .i64 a0 1048575))) false)) else (some false))
theorem stolelaw1_UtfSigns.mono_l : ∀ k, (∀ y0 y1, LeO (stolelaw1_UtfSigns.j0 k y0 y1) (stolelaw1_UtfSigns.j0 (k + 1) y0 y1)) ∧ (∀ y0, LeO (stolelaw1_UtfSigns.j1 k y0) (stolelaw1_UtfSigns.j1 (k + 1) y0))
 | 0 => ⟨fun _ _ r h => by simp [stolelaw1_UtfSigns.j0] at h, fun _ r h => by simp [stolelaw1_UtfSigns.j1] at h⟩
 | k + 1 => by
  obtain ⟨ih0, ih1⟩ := stolelaw1_UtfSigns.mono_l k
  refine ⟨?_, ?_⟩
  ·intro y0 y1
   unfold stolelaw1_UtfSigns.j0
   repeat' first
   | (with_reducible exact ih0 _ _)
   | (with_reducible exact ih1 _)
   | (with_reducible exact LeO.refl _)
   | (with_reducible exact LeO.none _)
   | (with_reducible refine LeO.ite ?_ ?_)
   | (with_reducible refine LeO.bind ?_ (fun _ => ?_))
   | exact ih0 _ _
   | exact ih1 _
   | exact LeO.none _
   | refine LeO.ite ?_ ?_
   | refine LeO.bind ?_ (fun _ => ?_)
  ·intro y0
   unfold stolelaw1_UtfSigns.j1
   repeat' first
   | (with_reducible exact ih0 _ _)
   | (with_reducible exact ih1 _)
   | (with_reducible exact LeO.refl _)
   | (with_reducible exact LeO.none _)
   | (with_reducible refine LeO.ite ?_ ?_)
   | (with_reducible refine LeO.bind ?_ (fun _ => ?_))
   | exact ih0 _ _
   | exact ih1 _
   | exact LeO.none _
   | refine LeO.ite ?_ ?_
   | refine LeO.bind ?_ (fun _ => ?_)
theorem stolelaw1_UtfSigns.mono : ∀ a0 k, LeO (stolelaw1_UtfSigns.f k a0) (stolelaw1_UtfSigns.f (k + 1) a0) := by
 intro a0 k
 obtain ⟨ih0, ih1⟩ := stolelaw1_UtfSigns.mono_l k
 unfold stolelaw1_UtfSigns.f
 repeat' first
   | (with_reducible exact ih0 _ _)
   | (with_reducible exact ih1 _)
   | (with_reducible exact LeO.refl _)
   | (with_reducible exact LeO.none _)
   | (with_reducible refine LeO.ite ?_ ?_)
   | (with_reducible refine LeO.bind ?_ (fun _ => ?_))
   | exact ih0 _ _
   | exact ih1 _
   | exact LeO.none _
   | refine LeO.ite ?_ ?_
   | refine LeO.bind ?_ (fun _ => ?_)
set_option maxHeartbeats 8000000 in
set_option maxRecDepth 100000 in
theorem stolelaw1_UtfSigns.calls (k : Nat) (a0 : Int) (r : Bool) (w : World) (hT : Tabs w) (h : stolelaw1_UtfSigns.f k a0 = some r) :
  Calls Tryd.prog 6 #[.int .i64 a0] w fun e w' => e = .returned (.bool r) ∧ Below w.heap.size w w' := by
 have HT := Aside0.mk hT
 clear hT
 have HB := Aside0.mk (Below.refl w.heap.size w)
 have H : ((stolelaw1_awake.f).bind fun t149 => (if t149 = true then (if (wrap64 (1 + (Go.bits .and .i64 a0 1048575))) ≥ 55296 then (stolelaw1_UtfSigns.j0 k (wrap64 (1 + (Go.bits .and .i64 a0 1048575))) (decide ((wrap64 (1 + (Go.bits .and .i64 a0 1048575))) ≤ 57343))) else (stolelaw1_UtfSigns.j0 k (wrap64 (1 + (Go.bits .and .i64 a0 1048575))) false)) else (some false))) = some r := h
 clear h
 replace H := Option.bind_eq_some_iff.mp H
 obtain ⟨t149, A20, H⟩ := H
 replace H : (if t149 = true then (if (wrap64 (1 + (Go.bits .and .i64 a0 1048575))) ≥ 55296 then (stolelaw1_UtfSigns.j0 k (wrap64 (1 + (Go.bits .and .i64 a0 1048575))) (decide ((wrap64 (1 + (Go.bits .and .i64 a0 1048575))) ≤ 57343))) else (stolelaw1_UtfSigns.j0 k (wrap64 (1 + (Go.bits .and .i64 a0 1048575))) false)) else (some false)) = some r := H
 have A2 := Aside0.mk A20
 clear A20
 by_cases c3 : t149 = true
 ·subst c3
  have H1 : (if (wrap64 (1 + (Go.bits .and .i64 a0 1048575))) ≥ 55296 then (stolelaw1_UtfSigns.j0 k (wrap64 (1 + (Go.bits .and .i64 a0 1048575))) (decide ((wrap64 (1 + (Go.bits .and .i64 a0 1048575))) ≤ 57343))) else (stolelaw1_UtfSigns.j0 k (wrap64 (1 + (Go.bits .and .i64 a0 1048575))) false)) = some r := by rw [if_pos rfl] at H; exact H
  clear H
  have H := H1
  clear H1
  have HC4 := Aside0.mk H
  clear H
  go_enter Tryd.func6, Tryd.ntmps6
  go_upto_region 4 with (first | ((with_reducible refine gate_callee (f := 14) rfl ?_); refine goesL_ (some 8) rfl rfl Tryd.func14 (by kernel_rfl) rfl #[] rfl (by (try simp only [List.map_toArray, List.map_cons, List.map_nil]); first | done | rfl | (simp only [List.length_drop, List.length_take]; rfl)) ?_; (with_reducible refine (stolelaw1_awake.calls  true _ (tabs_below HT.out (by repeat (first | (with_reducible first | exact HB.out | apply below_alloc | apply pw_below_drewN | apply below_drew1) | exact HB.out))) A2.out).mono ?_); rintro e w5 ⟨rfl, hb⟩; refine ⟨_, rfl, ?_⟩; have n0_ := Aside0.mk (below_step (by repeat (first | (with_reducible first | exact HB.out | apply below_alloc | apply pw_below_drewN | apply below_drew1) | exact HB.out)) hb); clear HB; have HB := n0_; clear n0_; (try clear hb); (try clear hb2); (try clear hk); (try clear hi)))
  (try simp only [Act.put, List.setIfInBounds_toArray, List.set_cons_zero, List.set_cons_succ])
  go_cut [18] (fun v18 wc => ∃ (kq : Nat) (x18_3 : Bool), v18 = .bool x18_3 ∧ Aside0 (stolelaw1_UtfSigns.j0 kq (wrap64 (1 + (Go.bits .and .i64 a0 1048575))) x18_3 = some r) ∧ Aside0 (kq ≤ k) ∧ Aside0 (Below w.heap.size w wc))
  case first =>
   have H := HC4.out
   clear HC4
   by_cases c6 : (wrap64 (1 + (Go.bits .and .i64 a0 1048575))) ≥ 55296
   ·rw [if_pos c6] at H
    have c6b0 : decide (55296 ≤ (wrap64 (1 + (Go.bits .and .i64 a0 1048575)))) = true := decide_eq_true c6
    clear c6
    (first | rw [c6b0] | (simp only [i64_w, i32_w]; rw [c6b0]) | skip)
    have H' := Aside0.mk H
    clear H
    go_wp2
    go_meet
    case rel => exact ⟨_, (decide ((wrap64 (1 + (Go.bits .and .i64 a0 1048575))) ≤ 57343)), (by first | rfl | (simp; done) | (simp [*]; done)), H', ⟨by first | omega | exact Nat.le_refl _⟩, ⟨by repeat (first | (with_reducible first | exact HB.out | apply below_alloc | apply pw_below_drewN | apply below_drew1) | exact HB.out)⟩⟩
   ·rw [if_neg c6] at H
    have c6b0 : decide (55296 ≤ (wrap64 (1 + (Go.bits .and .i64 a0 1048575)))) = false := decide_eq_false c6
    clear c6
    (first | rw [c6b0] | (simp only [i64_w, i32_w]; rw [c6b0]) | skip)
    have H' := Aside0.mk H
    clear H
    go_wp2
    go_meet
    case rel => exact ⟨_, (false), (by first | rfl | (simp; done) | (simp [*]; done)), H', ⟨by first | omega | exact Nat.le_refl _⟩, ⟨by repeat (first | (with_reducible first | exact HB.out | apply below_alloc | apply pw_below_drewN | apply below_drew1) | exact HB.out)⟩⟩
  case rest =>
   clear HC4
   try clear c1
   try clear p2
   try clear c3
   try clear c6
   try clear c6b0
   try clear p6
   obtain ⟨kq, x18_3, rfl, HA, HJ3, HB⟩ := hcut
   cases kq with
   | zero => exact absurd HA.out (by simp [stolelaw1_UtfSigns.j0])
   | succ kj3 =>
    have H := HA.out
    clear HA
    simp only [stolelaw1_UtfSigns.j0] at H
    by_cases c7 : x18_3 = true
    ·subst c7
     have H1 : (some true) = some r := by rw [if_pos rfl] at H; exact H
     clear H
     have H := H1
     clear H1
     obtain rfl := Option.some.inj H
     go_wp2
     go_ret
     exact ⟨by first | rfl | (simp [errW_none, errW_some] <;> rfl) | (simp [*, errW_none, errW_some] <;> rfl), by repeat (first | (with_reducible first | exact HB.out | apply below_alloc | apply pw_below_drewN | apply below_drew1) | exact HB.out)⟩
    ·replace c7 := Bool.eq_false_iff.mpr c7
     subst c7
     have H1 : (if (wrap64 (1 + (Go.bits .and .i64 a0 1048575))) ≥ 65536 then (stolelaw1_UtfSigns.j1 kj3 (([(Go.bits .or .i64 240 ((wrap64 (1 + (Go.bits .and .i64 a0 1048575))) / 262144)) % 256, (Go.bits .or .i64 128 (Go.bits .and .i64 ((wrap64 (1 + (Go.bits .and .i64 a0 1048575))) / 4096) 63)) % 256, (Go.bits .or .i64 128 (Go.bits .and .i64 ((wrap64 (1 + (Go.bits .and .i64 a0 1048575))) / 64) 63)) % 256, (Go.bits .or .i64 128 (Go.bits .and .i64 (wrap64 (1 + (Go.bits .and .i64 a0 1048575))) 63)) % 256] : List Int))) else (if (wrap64 (1 + (Go.bits .and .i64 a0 1048575))) ≥ 2048 then (stolelaw1_UtfSigns.j1 kj3 (([(Go.bits .or .i64 224 ((wrap64 (1 + (Go.bits .and .i64 a0 1048575))) / 4096)) % 256, (Go.bits .or .i64 128 (Go.bits .and .i64 ((wrap64 (1 + (Go.bits .and .i64 a0 1048575))) / 64) 63)) % 256, (Go.bits .or .i64 128 (Go.bits .and .i64 (wrap64 (1 + (Go.bits .and .i64 a0 1048575))) 63)) % 256] : List Int))) else (if (wrap64 (1 + (Go.bits .and .i64 a0 1048575))) ≥ 128 then (stolelaw1_UtfSigns.j1 kj3 (([(Go.bits .or .i64 192 ((wrap64 (1 + (Go.bits .and .i64 a0 1048575))) / 64)) % 256, (Go.bits .or .i64 128 (Go.bits .and .i64 (wrap64 (1 + (Go.bits .and .i64 a0 1048575))) 63)) % 256] : List Int))) else (stolelaw1_UtfSigns.j1 kj3 (([((wrap64 (1 + (Go.bits .and .i64 a0 1048575)))) % 256] : List Int)))))) = some r := by rw [if_neg (show ¬ (false = true) by decide)] at H; exact H
     clear H
     have H := H1
     clear H1
     obtain ⟨y150, hy150⟩ : ∃ y_ : List Int, y_ = (([((wrap64 (1 + (Go.bits .and .i64 a0 1048575)))) % 256] : List Int)) := ⟨_, rfl⟩
     replace H : (if (wrap64 (1 + (Go.bits .and .i64 a0 1048575))) ≥ 65536 then (stolelaw1_UtfSigns.j1 kj3 (([(Go.bits .or .i64 240 ((wrap64 (1 + (Go.bits .and .i64 a0 1048575))) / 262144)) % 256, (Go.bits .or .i64 128 (Go.bits .and .i64 ((wrap64 (1 + (Go.bits .and .i64 a0 1048575))) / 4096) 63)) % 256, (Go.bits .or .i64 128 (Go.bits .and .i64 ((wrap64 (1 + (Go.bits .and .i64 a0 1048575))) / 64) 63)) % 256, (Go.bits .or .i64 128 (Go.bits .and .i64 (wrap64 (1 + (Go.bits .and .i64 a0 1048575))) 63)) % 256] : List Int))) else (if (wrap64 (1 + (Go.bits .and .i64 a0 1048575))) ≥ 2048 then (stolelaw1_UtfSigns.j1 kj3 (([(Go.bits .or .i64 224 ((wrap64 (1 + (Go.bits .and .i64 a0 1048575))) / 4096)) % 256, (Go.bits .or .i64 128 (Go.bits .and .i64 ((wrap64 (1 + (Go.bits .and .i64 a0 1048575))) / 64) 63)) % 256, (Go.bits .or .i64 128 (Go.bits .and .i64 (wrap64 (1 + (Go.bits .and .i64 a0 1048575))) 63)) % 256] : List Int))) else (if (wrap64 (1 + (Go.bits .and .i64 a0 1048575))) ≥ 128 then (stolelaw1_UtfSigns.j1 kj3 (([(Go.bits .or .i64 192 ((wrap64 (1 + (Go.bits .and .i64 a0 1048575))) / 64)) % 256, (Go.bits .or .i64 128 (Go.bits .and .i64 (wrap64 (1 + (Go.bits .and .i64 a0 1048575))) 63)) % 256] : List Int))) else (stolelaw1_UtfSigns.j1 kj3 y150)))) = some r := by first | (rw [hy150]; with_reducible exact H) | (have H2_ := (Option.bind_some _ _).symm.trans H; rw [hy150]; with_reducible exact H2_) | (have H2_ := (Option.bind_some _ _).symm.trans H; with_reducible exact H2_) | with_reducible exact H | (rw [hy150]; exact H) | exact H
     have Ny150 := Aside0.mk hy150
     clear hy150
     have HC8 := Aside0.mk H
     clear H
     go_upto_block 0 with (first | ((with_reducible refine gate_dst (N := 21) rfl ?_); (try (refine gate_guard (by rfl) ?_; dsimp only)); refine Kd.R_lit (Kd.int .u8) _ 5 ?hg (N := 21) ?hd (xs := ([((wrap64 (1 + (Go.bits .and .i64 a0 1048575)))) % 256] : List Int)) (inner := [.int .u8 (((wrap64 (1 + (Go.bits .and .i64 a0 1048575)))) % 256)]) (ok := fun _ => True) (okp := fun _ => True) ?hr ?hp (fun _ hk => hk) trivial (Below.refl _ _) (Nat.le_refl _) (by simp) ?_; (case hd => rfl); (case hg => rfl); (case hr => first | (go_simp; done) | (go_simp; rfl)); (case hp => exact (Reps.one (show Kd.M (Kd.int .u8) _ _ _ (((wrap64 (1 + (Go.bits .and .i64 a0 1048575)))) % 256) [.int .u8 (((wrap64 (1 + (Go.bits .and .i64 a0 1048575)))) % 256)] from rfl) (Reps.none _ _))); intro v151 w9 ho10 hb hg_ hnew_; clear hg_ hnew_; (first | rw [← Ny150.out] at ho10 | (simp only [Int.reduceToNat] at ho10; rw [← Ny150.out] at ho10)); have n0_ := Aside0.mk (Kd.R_lower ho10 (below_size (by repeat (first | (with_reducible first | exact HB.out | apply below_alloc | apply pw_below_drewN | apply below_drew1) | exact HB.out)))); have n1_ := Aside0.mk (below_step (by repeat (first | (with_reducible first | exact HB.out | apply below_alloc | apply pw_below_drewN | apply below_drew1) | exact HB.out)) hb); clear HB; have HO152 := n0_; have HB := n1_; clear n0_ n1_; clear hb ho10))
     (try simp only [Act.put, List.setIfInBounds_toArray, List.set_cons_zero, List.set_cons_succ])
     go_cut [4] (fun v4 wc => ∃ (kq : Nat) (x4_7 : List Int), Aside0 (stolelaw1_UtfSigns.j1 kq x4_7 = some r) ∧ Aside0 (kq ≤ kj3) ∧ Aside0 (Kd.R (Kd.int .u8) 5 wc w.heap.size (fun _ => True) v4 x4_7) ∧ Aside0 (Below w.heap.size w wc))
     case first =>
      have H := HC8.out
      clear HC8
      by_cases c11 : (wrap64 (1 + (Go.bits .and .i64 a0 1048575))) ≥ 65536
      ·rw [if_pos c11] at H
       have c11b0 : decide (65536 ≤ (wrap64 (1 + (Go.bits .and .i64 a0 1048575)))) = true := decide_eq_true c11
       clear c11
       (first | rw [c11b0] | (simp only [i64_w, i32_w]; rw [c11b0]) | skip)
       obtain ⟨y153, hy153⟩ : ∃ y_ : List Int, y_ = (([(Go.bits .or .i64 240 ((wrap64 (1 + (Go.bits .and .i64 a0 1048575))) / 262144)) % 256, (Go.bits .or .i64 128 (Go.bits .and .i64 ((wrap64 (1 + (Go.bits .and .i64 a0 1048575))) / 4096) 63)) % 256, (Go.bits .or .i64 128 (Go.bits .and .i64 ((wrap64 (1 + (Go.bits .and .i64 a0 1048575))) / 64) 63)) % 256, (Go.bits .or .i64 128 (Go.bits .and .i64 (wrap64 (1 + (Go.bits .and .i64 a0 1048575))) 63)) % 256] : List Int)) := ⟨_, rfl⟩
       replace H : (stolelaw1_UtfSigns.j1 kj3 y153) = some r := by first | (rw [hy153]; with_reducible exact H) | (have H2_ := (Option.bind_some _ _).symm.trans H; rw [hy153]; with_reducible exact H2_) | (have H2_ := (Option.bind_some _ _).symm.trans H; with_reducible exact H2_) | with_reducible exact H | (rw [hy153]; exact H) | exact H
       have Ny153 := Aside0.mk hy153
       clear hy153
       have H' := Aside0.mk H
       clear H
       go_wp2_with (first | ((with_reducible refine gate_dst (N := 43) rfl ?_); (try (refine gate_guard (by rfl) ?_; dsimp only)); refine Kd.R_lit (Kd.int .u8) _ 5 ?hg (N := 43) ?hd (xs := ([(Go.bits .or .i64 240 ((wrap64 (1 + (Go.bits .and .i64 a0 1048575))) / 262144)) % 256, (Go.bits .or .i64 128 (Go.bits .and .i64 ((wrap64 (1 + (Go.bits .and .i64 a0 1048575))) / 4096) 63)) % 256, (Go.bits .or .i64 128 (Go.bits .and .i64 ((wrap64 (1 + (Go.bits .and .i64 a0 1048575))) / 64) 63)) % 256, (Go.bits .or .i64 128 (Go.bits .and .i64 (wrap64 (1 + (Go.bits .and .i64 a0 1048575))) 63)) % 256] : List Int)) (inner := [.int .u8 ((Go.bits .or .i64 240 ((wrap64 (1 + (Go.bits .and .i64 a0 1048575))) / 262144)) % 256), .int .u8 ((Go.bits .or .i64 128 (Go.bits .and .i64 ((wrap64 (1 + (Go.bits .and .i64 a0 1048575))) / 4096) 63)) % 256), .int .u8 ((Go.bits .or .i64 128 (Go.bits .and .i64 ((wrap64 (1 + (Go.bits .and .i64 a0 1048575))) / 64) 63)) % 256), .int .u8 ((Go.bits .or .i64 128 (Go.bits .and .i64 (wrap64 (1 + (Go.bits .and .i64 a0 1048575))) 63)) % 256)]) (ok := fun _ => True) (okp := fun _ => True) ?hr ?hp (fun _ hk => hk) trivial (Below.refl _ _) (Nat.le_refl _) (by simp) ?_; (case hd => rfl); (case hg => rfl); (case hr => first | (go_simp; done) | (go_simp; rfl)); (case hp => exact (Reps.one (show Kd.M (Kd.int .u8) _ _ _ ((Go.bits .or .i64 240 ((wrap64 (1 + (Go.bits .and .i64 a0 1048575))) / 262144)) % 256) [.int .u8 ((Go.bits .or .i64 240 ((wrap64 (1 + (Go.bits .and .i64 a0 1048575))) / 262144)) % 256)] from rfl) (Reps.one (show Kd.M (Kd.int .u8) _ _ _ ((Go.bits .or .i64 128 (Go.bits .and .i64 ((wrap64 (1 + (Go.bits .and .i64 a0 1048575))) / 4096) 63)) % 256) [.int .u8 ((Go.bits .or .i64 128 (Go.bits .and .i64 ((wrap64 (1 + (Go.bits .and .i64 a0 1048575))) / 4096) 63)) % 256)] from rfl) (Reps.one (show Kd.M (Kd.int .u8) _ _ _ ((Go.bits .or .i64 128 (Go.bits .and .i64 ((wrap64 (1 + (Go.bits .and .i64 a0 1048575))) / 64) 63)) % 256) [.int .u8 ((Go.bits .or .i64 128 (Go.bits .and .i64 ((wrap64 (1 + (Go.bits .and .i64 a0 1048575))) / 64) 63)) % 256)] from rfl) (Reps.one (show Kd.M (Kd.int .u8) _ _ _ ((Go.bits .or .i64 128 (Go.bits .and .i64 (wrap64 (1 + (Go.bits .and .i64 a0 1048575))) 63)) % 256) [.int .u8 ((Go.bits .or .i64 128 (Go.bits .and .i64 (wrap64 (1 + (Go.bits .and .i64 a0 1048575))) 63)) % 256)] from rfl) (Reps.none _ _)))))); intro v154 w12 ho13 hb hg_ hnew_; clear hg_ hnew_; (first | rw [← Ny153.out] at ho13 | (simp only [Int.reduceToNat] at ho13; rw [← Ny153.out] at ho13)); have n0_ := Aside0.mk (Kd.R_elder' (by (with_reducible repeat (first | apply Kd.R_alloc | apply Kd.R_drewN | apply Kd.R_drew)); exact HO152.out) (Kd.R_base ho13) hb); have n1_ := Aside0.mk (Kd.R_lower (Kd.R_new' ho13 (Kd.R_lt (by (with_reducible repeat (first | apply Kd.R_alloc | apply Kd.R_drewN | apply Kd.R_drew)); exact HO152.out))) (below_size (by repeat (first | (with_reducible first | exact HB.out | apply below_alloc | apply pw_below_drewN | apply below_drew1) | exact HB.out)))); have n2_ := Aside0.mk (below_step (by repeat (first | (with_reducible first | exact HB.out | apply below_alloc | apply pw_below_drewN | apply below_drew1) | exact HB.out)) hb); clear HO152; clear HB; have HO152 := n0_; have HO155 := n1_; have HB := n2_; clear n0_ n1_ n2_; clear hb ho13))
       go_meet
       case rel => exact ⟨_, (y153), H', ⟨by have := HJ3.out; first | omega | exact Nat.le_refl _⟩, ⟨by (with_reducible repeat (first | apply Kd.R_alloc | apply Kd.R_drewN | apply Kd.R_drew)); exact Kd.R_mono HO155.out (fun _ hk => trivial)⟩, ⟨by repeat (first | (with_reducible first | exact HB.out | apply below_alloc | apply pw_below_drewN | apply below_drew1) | exact HB.out)⟩⟩
      ·rw [if_neg c11] at H
       have c11b0 : decide (65536 ≤ (wrap64 (1 + (Go.bits .and .i64 a0 1048575)))) = false := decide_eq_false c11
       clear c11
       (first | rw [c11b0] | (simp only [i64_w, i32_w]; rw [c11b0]) | skip)
       by_cases c14 : (wrap64 (1 + (Go.bits .and .i64 a0 1048575))) ≥ 2048
       ·rw [if_pos c14] at H
        have c14b0 : decide (2048 ≤ (wrap64 (1 + (Go.bits .and .i64 a0 1048575)))) = true := decide_eq_true c14
        clear c14
        obtain ⟨y156, hy156⟩ : ∃ y_ : List Int, y_ = (([(Go.bits .or .i64 224 ((wrap64 (1 + (Go.bits .and .i64 a0 1048575))) / 4096)) % 256, (Go.bits .or .i64 128 (Go.bits .and .i64 ((wrap64 (1 + (Go.bits .and .i64 a0 1048575))) / 64) 63)) % 256, (Go.bits .or .i64 128 (Go.bits .and .i64 (wrap64 (1 + (Go.bits .and .i64 a0 1048575))) 63)) % 256] : List Int)) := ⟨_, rfl⟩
        replace H : (stolelaw1_UtfSigns.j1 kj3 y156) = some r := by first | (rw [hy156]; with_reducible exact H) | (have H2_ := (Option.bind_some _ _).symm.trans H; rw [hy156]; with_reducible exact H2_) | (have H2_ := (Option.bind_some _ _).symm.trans H; with_reducible exact H2_) | with_reducible exact H | (rw [hy156]; exact H) | exact H
        have Ny156 := Aside0.mk hy156
        clear hy156
        have H' := Aside0.mk H
        clear H
        go_wp2_with (first | ((with_reducible refine gate_dst (N := 60) rfl ?_); (try (refine gate_guard (by rfl) ?_; dsimp only)); refine Kd.R_lit (Kd.int .u8) _ 5 ?hg (N := 60) ?hd (xs := ([(Go.bits .or .i64 224 ((wrap64 (1 + (Go.bits .and .i64 a0 1048575))) / 4096)) % 256, (Go.bits .or .i64 128 (Go.bits .and .i64 ((wrap64 (1 + (Go.bits .and .i64 a0 1048575))) / 64) 63)) % 256, (Go.bits .or .i64 128 (Go.bits .and .i64 (wrap64 (1 + (Go.bits .and .i64 a0 1048575))) 63)) % 256] : List Int)) (inner := [.int .u8 ((Go.bits .or .i64 224 ((wrap64 (1 + (Go.bits .and .i64 a0 1048575))) / 4096)) % 256), .int .u8 ((Go.bits .or .i64 128 (Go.bits .and .i64 ((wrap64 (1 + (Go.bits .and .i64 a0 1048575))) / 64) 63)) % 256), .int .u8 ((Go.bits .or .i64 128 (Go.bits .and .i64 (wrap64 (1 + (Go.bits .and .i64 a0 1048575))) 63)) % 256)]) (ok := fun _ => True) (okp := fun _ => True) ?hr ?hp (fun _ hk => hk) trivial (Below.refl _ _) (Nat.le_refl _) (by simp) ?_; (case hd => rfl); (case hg => rfl); (case hr => first | (go_simp; done) | (go_simp; rfl)); (case hp => exact (Reps.one (show Kd.M (Kd.int .u8) _ _ _ ((Go.bits .or .i64 224 ((wrap64 (1 + (Go.bits .and .i64 a0 1048575))) / 4096)) % 256) [.int .u8 ((Go.bits .or .i64 224 ((wrap64 (1 + (Go.bits .and .i64 a0 1048575))) / 4096)) % 256)] from rfl) (Reps.one (show Kd.M (Kd.int .u8) _ _ _ ((Go.bits .or .i64 128 (Go.bits .and .i64 ((wrap64 (1 + (Go.bits .and .i64 a0 1048575))) / 64) 63)) % 256) [.int .u8 ((Go.bits .or .i64 128 (Go.bits .and .i64 ((wrap64 (1 + (Go.bits .and .i64 a0 1048575))) / 64) 63)) % 256)] from rfl) (Reps.one (show Kd.M (Kd.int .u8) _ _ _ ((Go.bits .or .i64 128 (Go.bits .and .i64 (wrap64 (1 + (Go.bits .and .i64 a0 1048575))) 63)) % 256) [.int .u8 ((Go.bits .or .i64 128 (Go.bits .and .i64 (wrap64 (1 + (Go.bits .and .i64 a0 1048575))) 63)) % 256)] from rfl) (Reps.none _ _))))); intro v157 w15 ho16 hb hg_ hnew_; clear hg_ hnew_; (first | rw [← Ny156.out] at ho16 | (simp only [Int.reduceToNat] at ho16; rw [← Ny156.out] at ho16)); have n0_ := Aside0.mk (Kd.R_elder' (by (with_reducible repeat (first | apply Kd.R_alloc | apply Kd.R_drewN | apply Kd.R_drew)); exact HO152.out) (Kd.R_base ho16) hb); have n1_ := Aside0.mk (Kd.R_lower (Kd.R_new' ho16 (Kd.R_lt (by (with_reducible repeat (first | apply Kd.R_alloc | apply Kd.R_drewN | apply Kd.R_drew)); exact HO152.out))) (below_size (by repeat (first | (with_reducible first | exact HB.out | apply below_alloc | apply pw_below_drewN | apply below_drew1) | exact HB.out)))); have n2_ := Aside0.mk (below_step (by repeat (first | (with_reducible first | exact HB.out | apply below_alloc | apply pw_below_drewN | apply below_drew1) | exact HB.out)) hb); clear HO152; clear HB; have HO152 := n0_; have HO158 := n1_; have HB := n2_; clear n0_ n1_ n2_; clear hb ho16))
        go_meet
        case rel => exact ⟨_, (y156), H', ⟨by have := HJ3.out; first | omega | exact Nat.le_refl _⟩, ⟨by (with_reducible repeat (first | apply Kd.R_alloc | apply Kd.R_drewN | apply Kd.R_drew)); exact Kd.R_mono HO158.out (fun _ hk => trivial)⟩, ⟨by repeat (first | (with_reducible first | exact HB.out | apply below_alloc | apply pw_below_drewN | apply below_drew1) | exact HB.out)⟩⟩
       ·rw [if_neg c14] at H
        have c14b0 : decide (2048 ≤ (wrap64 (1 + (Go.bits .and .i64 a0 1048575)))) = false := decide_eq_false c14
        clear c14
        by_cases c17 : (wrap64 (1 + (Go.bits .and .i64 a0 1048575))) ≥ 128
        ·rw [if_pos c17] at H
         have c17b0 : decide (128 ≤ (wrap64 (1 + (Go.bits .and .i64 a0 1048575)))) = true := decide_eq_true c17
         clear c17
         obtain ⟨y159, hy159⟩ : ∃ y_ : List Int, y_ = (([(Go.bits .or .i64 192 ((wrap64 (1 + (Go.bits .and .i64 a0 1048575))) / 64)) % 256, (Go.bits .or .i64 128 (Go.bits .and .i64 (wrap64 (1 + (Go.bits .and .i64 a0 1048575))) 63)) % 256] : List Int)) := ⟨_, rfl⟩
         replace H : (stolelaw1_UtfSigns.j1 kj3 y159) = some r := by first | (rw [hy159]; with_reducible exact H) | (have H2_ := (Option.bind_some _ _).symm.trans H; rw [hy159]; with_reducible exact H2_) | (have H2_ := (Option.bind_some _ _).symm.trans H; with_reducible exact H2_) | with_reducible exact H | (rw [hy159]; exact H) | exact H
         have Ny159 := Aside0.mk hy159
         clear hy159
         have H' := Aside0.mk H
         clear H
         go_wp2_with (first | ((with_reducible refine gate_dst (N := 72) rfl ?_); (try (refine gate_guard (by rfl) ?_; dsimp only)); refine Kd.R_lit (Kd.int .u8) _ 5 ?hg (N := 72) ?hd (xs := ([(Go.bits .or .i64 192 ((wrap64 (1 + (Go.bits .and .i64 a0 1048575))) / 64)) % 256, (Go.bits .or .i64 128 (Go.bits .and .i64 (wrap64 (1 + (Go.bits .and .i64 a0 1048575))) 63)) % 256] : List Int)) (inner := [.int .u8 ((Go.bits .or .i64 192 ((wrap64 (1 + (Go.bits .and .i64 a0 1048575))) / 64)) % 256), .int .u8 ((Go.bits .or .i64 128 (Go.bits .and .i64 (wrap64 (1 + (Go.bits .and .i64 a0 1048575))) 63)) % 256)]) (ok := fun _ => True) (okp := fun _ => True) ?hr ?hp (fun _ hk => hk) trivial (Below.refl _ _) (Nat.le_refl _) (by simp) ?_; (case hd => rfl); (case hg => rfl); (case hr => first | (go_simp; done) | (go_simp; rfl)); (case hp => exact (Reps.one (show Kd.M (Kd.int .u8) _ _ _ ((Go.bits .or .i64 192 ((wrap64 (1 + (Go.bits .and .i64 a0 1048575))) / 64)) % 256) [.int .u8 ((Go.bits .or .i64 192 ((wrap64 (1 + (Go.bits .and .i64 a0 1048575))) / 64)) % 256)] from rfl) (Reps.one (show Kd.M (Kd.int .u8) _ _ _ ((Go.bits .or .i64 128 (Go.bits .and .i64 (wrap64 (1 + (Go.bits .and .i64 a0 1048575))) 63)) % 256) [.int .u8 ((Go.bits .or .i64 128 (Go.bits .and .i64 (wrap64 (1 + (Go.bits .and .i64 a0 1048575))) 63)) % 256)] from rfl) (Reps.none _ _)))); intro v160 w18 ho19 hb hg_ hnew_; clear hg_ hnew_; (first | rw [← Ny159.out] at ho19 | (simp only [Int.reduceToNat] at ho19; rw [← Ny159.out] at ho19)); have n0_ := Aside0.mk (Kd.R_elder' (by (with_reducible repeat (first | apply Kd.R_alloc | apply Kd.R_drewN | apply Kd.R_drew)); exact HO152.out) (Kd.R_base ho19) hb); have n1_ := Aside0.mk (Kd.R_lower (Kd.R_new' ho19 (Kd.R_lt (by (with_reducible repeat (first | apply Kd.R_alloc | apply Kd.R_drewN | apply Kd.R_drew)); exact HO152.out))) (below_size (by repeat (first | (with_reducible first | exact HB.out | apply below_alloc | apply pw_below_drewN | apply below_drew1) | exact HB.out)))); have n2_ := Aside0.mk (below_step (by repeat (first | (with_reducible first | exact HB.out | apply below_alloc | apply pw_below_drewN | apply below_drew1) | exact HB.out)) hb); clear HO152; clear HB; have HO152 := n0_; have HO161 := n1_; have HB := n2_; clear n0_ n1_ n2_; clear hb ho19))
         go_meet
         case rel => exact ⟨_, (y159), H', ⟨by have := HJ3.out; first | omega | exact Nat.le_refl _⟩, ⟨by (with_reducible repeat (first | apply Kd.R_alloc | apply Kd.R_drewN | apply Kd.R_drew)); exact Kd.R_mono HO161.out (fun _ hk => trivial)⟩, ⟨by repeat (first | (with_reducible first | exact HB.out | apply below_alloc | apply pw_below_drewN | apply below_drew1) | exact HB.out)⟩⟩
        ·rw [if_neg c17] at H
         have c17b0 : decide (128 ≤ (wrap64 (1 + (Go.bits .and .i64 a0 1048575)))) = false := decide_eq_false c17
         clear c17
         have H' := Aside0.mk H
         clear H
         go_wp2
         go_meet
         case rel => exact ⟨_, (y150), H', ⟨by have := HJ3.out; first | omega | exact Nat.le_refl _⟩, ⟨by (with_reducible repeat (first | apply Kd.R_alloc | apply Kd.R_drewN | apply Kd.R_drew)); exact HO152.out⟩, ⟨by repeat (first | (with_reducible first | exact HB.out | apply below_alloc | apply pw_below_drewN | apply below_drew1) | exact HB.out)⟩⟩
     case rest =>
      clear HC8
      try clear c1
      try clear p2
      try clear c3
      try clear c6
      try clear c6b0
      try clear p6
      try clear c7
      try clear c11
      try clear c11b0
      try clear c14
      try clear c14b0
      try clear c17
      try clear c17b0
      try clear p2
      try clear p6
      obtain ⟨kq, x4_7, HA, HJ7, HO_4, HB⟩ := hcut
      cases kq with
      | zero => exact absurd HA.out (by simp [stolelaw1_UtfSigns.j1])
      | succ kj7 =>
       have H := HA.out
       clear HA
       simp only [stolelaw1_UtfSigns.j1] at H
       by_cases c20 : (strOfNums x4_7).size + 1 ≤ 9223372036854775807
       ·rw [if_pos c20] at H
        have c20b0 := eq_true c20
        have c20b1 : decide ((strOfNums x4_7).size + 1 ≤ 9223372036854775807) = true := decide_eq_true c20
        try have c20b2 : (9223372036854775807 < (strOfNums x4_7).size + 1) = False := eq_false (Nat.not_lt.2 c20)
        obtain ⟨ji21, hji21⟩ : ∃ j_ : Int, (wrap64 (((strOfNums x4_7).size : Int) - 1)) = j_ := ⟨_, rfl⟩
        replace H : (if 0 ≤ (ji21) then (if (ji21) ≤ ((strOfNums x4_7).size : Int) then ((utf_May.f (strOfNums x4_7)).bind fun t162 => (if t162 = true then (if 1 + (strOfNums x4_7).size ≤ 9223372036854775807 then (if 1 + (strOfNums x4_7).size + 1 ≤ 9223372036854775807 then ((utf_May.f (((⟨#[97]⟩ : ByteArray) ++ (strOfNums x4_7)) ++ (⟨#[98]⟩ : ByteArray))).bind fun t163 => (if t163 = true then ((utf_Norm.f (strOfNums x4_7)).bind fun t164 => (if t164.toList = (strOfNums x4_7).toList then ((utf_May.f ((strOfNums x4_7) ++ (⟨#[128]⟩ : ByteArray))).bind fun t165 => (if t165 = true then (some false) else ((utf_Norm.f ((strOfNums x4_7) ++ (⟨#[128]⟩ : ByteArray))).bind fun t166 => (if (strOfNums x4_7).size + 3 ≤ 9223372036854775807 then (if t166.toList = ((strOfNums x4_7) ++ (⟨#[239, 191, 189]⟩ : ByteArray)).toList then ((utf_May.f ((strOfNums x4_7).extract 0 ((ji21) : Int).toNat)).bind fun t167 => (if (t167 == ((x4_7.length : Int) == 1)) = true then (if ((strOfNums x4_7).extract 0 ((ji21) : Int).toNat).size + 1 ≤ 9223372036854775807 then ((utf_Norm.f (((strOfNums x4_7).extract 0 ((ji21) : Int).toNat) ++ (⟨#[122]⟩ : ByteArray))).bind fun t168 => (if (t168.size : Int) = (wrap64 ((wrap64 (3 * (((strOfNums x4_7).extract 0 ((ji21) : Int).toNat).size : Int))) + 1)) then ((stolelaw0_Num.f 0).bind fun t169 => (some (t169 == 0))) else (some false))) else (none)) else (some false))) else (some false)) else (none))))) else (some false))) else (some false))) else (none)) else (none)) else (some false))) else (none)) else (none)) = some r := by first | (rw [hji21] at H; exact H) | (simp only [hji21] at H ⊢; exact H)
        have hji21w : (IntKind.i64.wrap (((strOfNums x4_7).size : Int) - 1)) = ji21 := (i64_w _).trans hji21
        by_cases c22 : 0 ≤ (ji21)
        ·rw [if_pos c22] at H
         have c22b0 := eq_true c22
         have c22b1 : decide (0 ≤ (ji21)) = true := decide_eq_true c22
         clear c22
         by_cases c23 : (ji21) ≤ ((strOfNums x4_7).size : Int)
         ·rw [if_pos c23] at H
          have c23b0 := eq_true c23
          have c23b1 : decide ((ji21) ≤ ((strOfNums x4_7).size : Int)) = true := decide_eq_true c23
          clear c23
          replace H := Option.bind_eq_some_iff.mp H
          obtain ⟨t162, A240, H⟩ := H
          replace H : (if t162 = true then (if 1 + (strOfNums x4_7).size ≤ 9223372036854775807 then (if 1 + (strOfNums x4_7).size + 1 ≤ 9223372036854775807 then ((utf_May.f (((⟨#[97]⟩ : ByteArray) ++ (strOfNums x4_7)) ++ (⟨#[98]⟩ : ByteArray))).bind fun t163 => (if t163 = true then ((utf_Norm.f (strOfNums x4_7)).bind fun t164 => (if t164.toList = (strOfNums x4_7).toList then ((utf_May.f ((strOfNums x4_7) ++ (⟨#[128]⟩ : ByteArray))).bind fun t165 => (if t165 = true then (some false) else ((utf_Norm.f ((strOfNums x4_7) ++ (⟨#[128]⟩ : ByteArray))).bind fun t166 => (if (strOfNums x4_7).size + 3 ≤ 9223372036854775807 then (if t166.toList = ((strOfNums x4_7) ++ (⟨#[239, 191, 189]⟩ : ByteArray)).toList then ((utf_May.f ((strOfNums x4_7).extract 0 ((ji21) : Int).toNat)).bind fun t167 => (if (t167 == ((x4_7.length : Int) == 1)) = true then (if ((strOfNums x4_7).extract 0 ((ji21) : Int).toNat).size + 1 ≤ 9223372036854775807 then ((utf_Norm.f (((strOfNums x4_7).extract 0 ((ji21) : Int).toNat) ++ (⟨#[122]⟩ : ByteArray))).bind fun t168 => (if (t168.size : Int) = (wrap64 ((wrap64 (3 * (((strOfNums x4_7).extract 0 ((ji21) : Int).toNat).size : Int))) + 1)) then ((stolelaw0_Num.f 0).bind fun t169 => (some (t169 == 0))) else (some false))) else (none)) else (some false))) else (some false)) else (none))))) else (some false))) else (some false))) else (none)) else (none)) else (some false)) = some r := H
          have A24 := Aside0.mk A240
          clear A240
          by_cases c25 : t162 = true
          ·subst c25
           have H1 : (if 1 + (strOfNums x4_7).size ≤ 9223372036854775807 then (if 1 + (strOfNums x4_7).size + 1 ≤ 9223372036854775807 then ((utf_May.f (((⟨#[97]⟩ : ByteArray) ++ (strOfNums x4_7)) ++ (⟨#[98]⟩ : ByteArray))).bind fun t163 => (if t163 = true then ((utf_Norm.f (strOfNums x4_7)).bind fun t164 => (if t164.toList = (strOfNums x4_7).toList then ((utf_May.f ((strOfNums x4_7) ++ (⟨#[128]⟩ : ByteArray))).bind fun t165 => (if t165 = true then (some false) else ((utf_Norm.f ((strOfNums x4_7) ++ (⟨#[128]⟩ : ByteArray))).bind fun t166 => (if (strOfNums x4_7).size + 3 ≤ 9223372036854775807 then (if t166.toList = ((strOfNums x4_7) ++ (⟨#[239, 191, 189]⟩ : ByteArray)).toList then ((utf_May.f ((strOfNums x4_7).extract 0 ((ji21) : Int).toNat)).bind fun t167 => (if (t167 == ((x4_7.length : Int) == 1)) = true then (if ((strOfNums x4_7).extract 0 ((ji21) : Int).toNat).size + 1 ≤ 9223372036854775807 then ((utf_Norm.f (((strOfNums x4_7).extract 0 ((ji21) : Int).toNat) ++ (⟨#[122]⟩ : ByteArray))).bind fun t168 => (if (t168.size : Int) = (wrap64 ((wrap64 (3 * (((strOfNums x4_7).extract 0 ((ji21) : Int).toNat).size : Int))) + 1)) then ((stolelaw0_Num.f 0).bind fun t169 => (some (t169 == 0))) else (some false))) else (none)) else (some false))) else (some false)) else (none))))) else (some false))) else (some false))) else (none)) else (none)) = some r := by rw [if_pos rfl] at H; exact H
           clear H
           have H := H1
           clear H1
           by_cases c26 : 1 + (strOfNums x4_7).size ≤ 9223372036854775807
           ·rw [if_pos c26] at H
            have c26b0 := eq_true c26
            have c26b1 : decide (1 + (strOfNums x4_7).size ≤ 9223372036854775807) = true := decide_eq_true c26
            try have c26b2 : (9223372036854775807 < 1 + (strOfNums x4_7).size) = False := eq_false (Nat.not_lt.2 c26)
            by_cases c27 : 1 + (strOfNums x4_7).size + 1 ≤ 9223372036854775807
            ·rw [if_pos c27] at H
             have c27b0 := eq_true c27
             have c27b1 : decide (1 + (strOfNums x4_7).size + 1 ≤ 9223372036854775807) = true := decide_eq_true c27
             try have c27b2 : (9223372036854775807 < 1 + (strOfNums x4_7).size + 1) = False := eq_false (Nat.not_lt.2 c27)
             replace H := Option.bind_eq_some_iff.mp H
             obtain ⟨t163, A280, H⟩ := H
             replace H : (if t163 = true then ((utf_Norm.f (strOfNums x4_7)).bind fun t164 => (if t164.toList = (strOfNums x4_7).toList then ((utf_May.f ((strOfNums x4_7) ++ (⟨#[128]⟩ : ByteArray))).bind fun t165 => (if t165 = true then (some false) else ((utf_Norm.f ((strOfNums x4_7) ++ (⟨#[128]⟩ : ByteArray))).bind fun t166 => (if (strOfNums x4_7).size + 3 ≤ 9223372036854775807 then (if t166.toList = ((strOfNums x4_7) ++ (⟨#[239, 191, 189]⟩ : ByteArray)).toList then ((utf_May.f ((strOfNums x4_7).extract 0 ((ji21) : Int).toNat)).bind fun t167 => (if (t167 == ((x4_7.length : Int) == 1)) = true then (if ((strOfNums x4_7).extract 0 ((ji21) : Int).toNat).size + 1 ≤ 9223372036854775807 then ((utf_Norm.f (((strOfNums x4_7).extract 0 ((ji21) : Int).toNat) ++ (⟨#[122]⟩ : ByteArray))).bind fun t168 => (if (t168.size : Int) = (wrap64 ((wrap64 (3 * (((strOfNums x4_7).extract 0 ((ji21) : Int).toNat).size : Int))) + 1)) then ((stolelaw0_Num.f 0).bind fun t169 => (some (t169 == 0))) else (some false))) else (none)) else (some false))) else (some false)) else (none))))) else (some false))) else (some false)) = some r := H
             have A28 := Aside0.mk A280
             clear A280
             by_cases c29 : t163 = true
             ·subst c29
              have H1 : ((utf_Norm.f (strOfNums x4_7)).bind fun t164 => (if t164.toList = (strOfNums x4_7).toList then ((utf_May.f ((strOfNums x4_7) ++ (⟨#[128]⟩ : ByteArray))).bind fun t165 => (if t165 = true then (some false) else ((utf_Norm.f ((strOfNums x4_7) ++ (⟨#[128]⟩ : ByteArray))).bind fun t166 => (if (strOfNums x4_7).size + 3 ≤ 9223372036854775807 then (if t166.toList = ((strOfNums x4_7) ++ (⟨#[239, 191, 189]⟩ : ByteArray)).toList then ((utf_May.f ((strOfNums x4_7).extract 0 ((ji21) : Int).toNat)).bind fun t167 => (if (t167 == ((x4_7.length : Int) == 1)) = true then (if ((strOfNums x4_7).extract 0 ((ji21) : Int).toNat).size + 1 ≤ 9223372036854775807 then ((utf_Norm.f (((strOfNums x4_7).extract 0 ((ji21) : Int).toNat) ++ (⟨#[122]⟩ : ByteArray))).bind fun t168 => (if (t168.size : Int) = (wrap64 ((wrap64 (3 * (((strOfNums x4_7).extract 0 ((ji21) : Int).toNat).size : Int))) + 1)) then ((stolelaw0_Num.f 0).bind fun t169 => (some (t169 == 0))) else (some false))) else (none)) else (some false))) else (some false)) else (none))))) else (some false))) = some r := by rw [if_pos rfl] at H; exact H
              clear H
              have H := H1
              clear H1
              replace H := Option.bind_eq_some_iff.mp H
              obtain ⟨t164, A300, H⟩ := H
              replace H : (if t164.toList = (strOfNums x4_7).toList then ((utf_May.f ((strOfNums x4_7) ++ (⟨#[128]⟩ : ByteArray))).bind fun t165 => (if t165 = true then (some false) else ((utf_Norm.f ((strOfNums x4_7) ++ (⟨#[128]⟩ : ByteArray))).bind fun t166 => (if (strOfNums x4_7).size + 3 ≤ 9223372036854775807 then (if t166.toList = ((strOfNums x4_7) ++ (⟨#[239, 191, 189]⟩ : ByteArray)).toList then ((utf_May.f ((strOfNums x4_7).extract 0 ((ji21) : Int).toNat)).bind fun t167 => (if (t167 == ((x4_7.length : Int) == 1)) = true then (if ((strOfNums x4_7).extract 0 ((ji21) : Int).toNat).size + 1 ≤ 9223372036854775807 then ((utf_Norm.f (((strOfNums x4_7).extract 0 ((ji21) : Int).toNat) ++ (⟨#[122]⟩ : ByteArray))).bind fun t168 => (if (t168.size : Int) = (wrap64 ((wrap64 (3 * (((strOfNums x4_7).extract 0 ((ji21) : Int).toNat).size : Int))) + 1)) then ((stolelaw0_Num.f 0).bind fun t169 => (some (t169 == 0))) else (some false))) else (none)) else (some false))) else (some false)) else (none))))) else (some false)) = some r := H
              have A30 := Aside0.mk A300
              clear A300
              by_cases c31 : t164.toList = (strOfNums x4_7).toList
              ·rw [if_pos c31] at H
               have c31b0 : (t164.toList == (strOfNums x4_7).toList) = true := beq_iff_eq.mpr c31
               have c31b1 : (t164.toList != (strOfNums x4_7).toList) = false := bne_eq_false_iff_eq.mpr c31
               clear c31
               replace H := Option.bind_eq_some_iff.mp H
               obtain ⟨t165, A320, H⟩ := H
               replace H : (if t165 = true then (some false) else ((utf_Norm.f ((strOfNums x4_7) ++ (⟨#[128]⟩ : ByteArray))).bind fun t166 => (if (strOfNums x4_7).size + 3 ≤ 9223372036854775807 then (if t166.toList = ((strOfNums x4_7) ++ (⟨#[239, 191, 189]⟩ : ByteArray)).toList then ((utf_May.f ((strOfNums x4_7).extract 0 ((ji21) : Int).toNat)).bind fun t167 => (if (t167 == ((x4_7.length : Int) == 1)) = true then (if ((strOfNums x4_7).extract 0 ((ji21) : Int).toNat).size + 1 ≤ 9223372036854775807 then ((utf_Norm.f (((strOfNums x4_7).extract 0 ((ji21) : Int).toNat) ++ (⟨#[122]⟩ : ByteArray))).bind fun t168 => (if (t168.size : Int) = (wrap64 ((wrap64 (3 * (((strOfNums x4_7).extract 0 ((ji21) : Int).toNat).size : Int))) + 1)) then ((stolelaw0_Num.f 0).bind fun t169 => (some (t169 == 0))) else (some false))) else (none)) else (some false))) else (some false)) else (none)))) = some r := H
               have A32 := Aside0.mk A320
               clear A320
               by_cases c33 : t165 = true
               ·subst c33
                have H1 : (some false) = some r := by rw [if_pos rfl] at H; exact H
                clear H
                have H := H1
                clear H1
                obtain rfl := Option.some.inj H
                have hcv34 := own_string (P := Tryd.prog) Tryd.underlying26 Tryd.underlying5 Tryd.underlying9 (Kd.own_of_R HO_4.out)
                go_wp2_with (first | ((with_reducible refine gate_callee (f := 8) rfl ?_); refine goesL_ (some 83) rfl rfl Tryd.func8 (by kernel_rfl) rfl #[.string (strOfNums x4_7)] rfl (by (try simp only [List.map_toArray, List.map_cons, List.map_nil]); first | done | rfl | (simp only [List.length_drop, List.length_take]; rfl)) ?_; (with_reducible refine (utf_May.calls (strOfNums x4_7) true _ (tabs_below HT.out (by repeat (first | (with_reducible first | exact HB.out | apply below_alloc | apply pw_below_drewN | apply below_drew1) | exact HB.out))) A24.out).mono ?_); rintro e w35 ⟨rfl, hb⟩; refine ⟨_, rfl, ?_⟩; have n0_ := Aside0.mk (Kd.R_below (by (with_reducible repeat (first | apply Kd.R_alloc | apply Kd.R_drewN | apply Kd.R_drew)); exact HO_4.out) hb); have n1_ := Aside0.mk (below_step (by repeat (first | (with_reducible first | exact HB.out | apply below_alloc | apply pw_below_drewN | apply below_drew1) | exact HB.out)) hb); clear HO_4; clear HB; have HO_4 := n0_; have HB := n1_; clear n0_ n1_; (try clear hb); (try clear hb2); (try clear hk); (try clear hi)) | (go_at_call 8; (with_reducible refine (utf_May.calls (((⟨#[97]⟩ : ByteArray) ++ (strOfNums x4_7)) ++ (⟨#[98]⟩ : ByteArray)) true _ (tabs_below HT.out (by repeat (first | (with_reducible first | exact HB.out | apply below_alloc | apply pw_below_drewN | apply below_drew1) | exact HB.out))) A28.out).mono ?_); rintro e w36 ⟨rfl, hb⟩; have n0_ := Aside0.mk (Kd.R_below (by (with_reducible repeat (first | apply Kd.R_alloc | apply Kd.R_drewN | apply Kd.R_drew)); exact HO_4.out) hb); have n1_ := Aside0.mk (below_step (by repeat (first | (with_reducible first | exact HB.out | apply below_alloc | apply pw_below_drewN | apply below_drew1) | exact HB.out)) hb); clear HO_4; clear HB; have HO_4 := n0_; have HB := n1_; clear n0_ n1_; (try clear hb); (try clear hb2); (try clear hk); (try clear hi)) | (go_at_call 10; (with_reducible refine (utf_Norm.calls (strOfNums x4_7) t164 _ (tabs_below HT.out (by repeat (first | (with_reducible first | exact HB.out | apply below_alloc | apply pw_below_drewN | apply below_drew1) | exact HB.out))) A30.out).mono ?_); rintro e w37 ⟨rfl, hb⟩; have n0_ := Aside0.mk (Kd.R_below (by (with_reducible repeat (first | apply Kd.R_alloc | apply Kd.R_drewN | apply Kd.R_drew)); exact HO_4.out) hb); have n1_ := Aside0.mk (below_step (by repeat (first | (with_reducible first | exact HB.out | apply below_alloc | apply pw_below_drewN | apply below_drew1) | exact HB.out)) hb); clear HO_4; clear HB; have HO_4 := n0_; have HB := n1_; clear n0_ n1_; (try clear hb); (try clear hb2); (try clear hk); (try clear hi)) | (go_at_call 8; (with_reducible refine (utf_May.calls ((strOfNums x4_7) ++ (⟨#[128]⟩ : ByteArray)) true _ (tabs_below HT.out (by repeat (first | (with_reducible first | exact HB.out | apply below_alloc | apply pw_below_drewN | apply below_drew1) | exact HB.out))) A32.out).mono ?_); rintro e w38 ⟨rfl, hb⟩; have n0_ := Aside0.mk (Kd.R_below (by (with_reducible repeat (first | apply Kd.R_alloc | apply Kd.R_drewN | apply Kd.R_drew)); exact HO_4.out) hb); have n1_ := Aside0.mk (below_step (by repeat (first | (with_reducible first | exact HB.out | apply below_alloc | apply pw_below_drewN | apply below_drew1) | exact HB.out)) hb); clear HO_4; clear HB; have HO_4 := n0_; have HB := n1_; clear n0_ n1_; (try clear hb); (try clear hb2); (try clear hk); (try clear hi)))
                go_ret
                exact ⟨by first | rfl | (simp [errW_none, errW_some] <;> rfl) | (simp only [← hji21]; first | rfl | (simp [errW_none, errW_some] <;> rfl)) | (simp [*, errW_none, errW_some] <;> rfl), by repeat (first | (with_reducible first | exact HB.out | apply below_alloc | apply pw_below_drewN | apply below_drew1) | exact HB.out)⟩
               ·replace c33 := Bool.eq_false_iff.mpr c33
                subst c33
                have H1 : ((utf_Norm.f ((strOfNums x4_7) ++ (⟨#[128]⟩ : ByteArray))).bind fun t166 => (if (strOfNums x4_7).size + 3 ≤ 9223372036854775807 then (if t166.toList = ((strOfNums x4_7) ++ (⟨#[239, 191, 189]⟩ : ByteArray)).toList then ((utf_May.f ((strOfNums x4_7).extract 0 ((ji21) : Int).toNat)).bind fun t167 => (if (t167 == ((x4_7.length : Int) == 1)) = true then (if ((strOfNums x4_7).extract 0 ((ji21) : Int).toNat).size + 1 ≤ 9223372036854775807 then ((utf_Norm.f (((strOfNums x4_7).extract 0 ((ji21) : Int).toNat) ++ (⟨#[122]⟩ : ByteArray))).bind fun t168 => (if (t168.size : Int) = (wrap64 ((wrap64 (3 * (((strOfNums x4_7).extract 0 ((ji21) : Int).toNat).size : Int))) + 1)) then ((stolelaw0_Num.f 0).bind fun t169 => (some (t169 == 0))) else (some false))) else (none)) else (some false))) else (some false)) else (none))) = some r := by rw [if_neg (show ¬ (false = true) by decide)] at H; exact H
                clear H
                have H := H1
                clear H1
                replace H := Option.bind_eq_some_iff.mp H
                obtain ⟨t166, A390, H⟩ := H
                replace H : (if (strOfNums x4_7).size + 3 ≤ 9223372036854775807 then (if t166.toList = ((strOfNums x4_7) ++ (⟨#[239, 191, 189]⟩ : ByteArray)).toList then ((utf_May.f ((strOfNums x4_7).extract 0 ((ji21) : Int).toNat)).bind fun t167 => (if (t167 == ((x4_7.length : Int) == 1)) = true then (if ((strOfNums x4_7).extract 0 ((ji21) : Int).toNat).size + 1 ≤ 9223372036854775807 then ((utf_Norm.f (((strOfNums x4_7).extract 0 ((ji21) : Int).toNat) ++ (⟨#[122]⟩ : ByteArray))).bind fun t168 => (if (t168.size : Int) = (wrap64 ((wrap64 (3 * (((strOfNums x4_7).extract 0 ((ji21) : Int).toNat).size : Int))) + 1)) then ((stolelaw0_Num.f 0).bind fun t169 => (some (t169 == 0))) else (some false))) else (none)) else (some false))) else (some false)) else (none)) = some r := H
                have A39 := Aside0.mk A390
                clear A390
                by_cases c40 : (strOfNums x4_7).size + 3 ≤ 9223372036854775807
                ·rw [if_pos c40] at H
                 have c40b0 := eq_true c40
                 have c40b1 : decide ((strOfNums x4_7).size + 3 ≤ 9223372036854775807) = true := decide_eq_true c40
                 try have c40b2 : (9223372036854775807 < (strOfNums x4_7).size + 3) = False := eq_false (Nat.not_lt.2 c40)
                 by_cases c41 : t166.toList = ((strOfNums x4_7) ++ (⟨#[239, 191, 189]⟩ : ByteArray)).toList
                 ·rw [if_pos c41] at H
                  have c41b0 : (t166.toList == ((strOfNums x4_7) ++ (⟨#[239, 191, 189]⟩ : ByteArray)).toList) = true := beq_iff_eq.mpr c41
                  have c41b1 : (t166.toList != ((strOfNums x4_7) ++ (⟨#[239, 191, 189]⟩ : ByteArray)).toList) = false := bne_eq_false_iff_eq.mpr c41
                  clear c41
                  replace H := Option.bind_eq_some_iff.mp H
                  obtain ⟨t167, A420, H⟩ := H
                  replace H : (if (t167 == ((x4_7.length : Int) == 1)) = true then (if ((strOfNums x4_7).extract 0 ((ji21) : Int).toNat).size + 1 ≤ 9223372036854775807 then ((utf_Norm.f (((strOfNums x4_7).extract 0 ((ji21) : Int).toNat) ++ (⟨#[122]⟩ : ByteArray))).bind fun t168 => (if (t168.size : Int) = (wrap64 ((wrap64 (3 * (((strOfNums x4_7).extract 0 ((ji21) : Int).toNat).size : Int))) + 1)) then ((stolelaw0_Num.f 0).bind fun t169 => (some (t169 == 0))) else (some false))) else (none)) else (some false)) = some r := H
                  have A42 := Aside0.mk A420
                  clear A420
                  by_cases c43 : (t167 == ((x4_7.length : Int) == 1)) = true
                  ·rw [if_pos c43] at H
                   have c43b0 : (t167 == ((x4_7.length : Int) == 1)) = true := c43
                   (try (have c43b1 : decide (t167 = ((x4_7.length : Int) == 1)) = true := by simpa using c43))
                   (try (have c43b2 : (t167 == ((x4_7.length : Int) == 1)) = true := by simpa using c43))
                   clear c43
                   by_cases c44 : ((strOfNums x4_7).extract 0 ((ji21) : Int).toNat).size + 1 ≤ 9223372036854775807
                   ·rw [if_pos c44] at H
                    have c44b0 := eq_true c44
                    have c44b1 : decide (((strOfNums x4_7).extract 0 ((ji21) : Int).toNat).size + 1 ≤ 9223372036854775807) = true := decide_eq_true c44
                    try have c44b2 : (9223372036854775807 < ((strOfNums x4_7).extract 0 ((ji21) : Int).toNat).size + 1) = False := eq_false (Nat.not_lt.2 c44)
                    replace H := Option.bind_eq_some_iff.mp H
                    obtain ⟨t168, A450, H⟩ := H
                    replace H : (if (t168.size : Int) = (wrap64 ((wrap64 (3 * (((strOfNums x4_7).extract 0 ((ji21) : Int).toNat).size : Int))) + 1)) then ((stolelaw0_Num.f 0).bind fun t169 => (some (t169 == 0))) else (some false)) = some r := H
                    have A45 := Aside0.mk A450
                    clear A450
                    by_cases c46 : (t168.size : Int) = (wrap64 ((wrap64 (3 * (((strOfNums x4_7).extract 0 ((ji21) : Int).toNat).size : Int))) + 1))
                    ·rw [if_pos c46] at H
                     have c46b0 : ((t168.size : Int) == (wrap64 ((wrap64 (3 * (((strOfNums x4_7).extract 0 ((ji21) : Int).toNat).size : Int))) + 1))) = true := beq_iff_eq.mpr c46
                     have c46b1 : ((t168.size : Int) != (wrap64 ((wrap64 (3 * (((strOfNums x4_7).extract 0 ((ji21) : Int).toNat).size : Int))) + 1))) = false := bne_eq_false_iff_eq.mpr c46
                     have eq_ : (((strOfNums x4_7).extract 0 ((ji21) : Int).toNat).size : Int) = max ji21 0 := by have a_ := of_eq_true c22b0; have b_ := of_eq_true c23b0; rw [ByteArray.size_extract]; omega
                     have c46b2 := c46b0
                     rw [eq_] at c46b2
                     have c46b3 := c46b1
                     rw [eq_] at c46b3
                     have eqn_ : ((strOfNums x4_7).extract 0 ((ji21) : Int).toNat).size = (ji21).toNat := by have a_ := of_eq_true c22b0; have b_ := of_eq_true c23b0; rw [ByteArray.size_extract]; omega
                     have c44b3 := c44b2
                     rw [eqn_] at c44b3
                     clear eqn_
                     clear eq_
                     clear c46
                     replace H := Option.bind_eq_some_iff.mp H
                     obtain ⟨t169, A470, H⟩ := H
                     replace H : (some (t169 == 0)) = some r := H
                     have A47 := Aside0.mk A470
                     clear A470
                     obtain rfl := Option.some.inj H
                     have hcv48 := own_string (P := Tryd.prog) Tryd.underlying26 Tryd.underlying5 Tryd.underlying9 (Kd.own_of_R HO_4.out)
                     go_wp2_with (first | ((with_reducible refine gate_callee (f := 8) rfl ?_); refine goesL_ (some 83) rfl rfl Tryd.func8 (by kernel_rfl) rfl #[.string (strOfNums x4_7)] rfl (by (try simp only [List.map_toArray, List.map_cons, List.map_nil]); first | done | rfl | (simp only [List.length_drop, List.length_take]; rfl)) ?_; (with_reducible refine (utf_May.calls (strOfNums x4_7) true _ (tabs_below HT.out (by repeat (first | (with_reducible first | exact HB.out | apply below_alloc | apply pw_below_drewN | apply below_drew1) | exact HB.out))) A24.out).mono ?_); rintro e w49 ⟨rfl, hb⟩; refine ⟨_, rfl, ?_⟩; have n0_ := Aside0.mk (Kd.R_below (by (with_reducible repeat (first | apply Kd.R_alloc | apply Kd.R_drewN | apply Kd.R_drew)); exact HO_4.out) hb); have n1_ := Aside0.mk (below_step (by repeat (first | (with_reducible first | exact HB.out | apply below_alloc | apply pw_below_drewN | apply below_drew1) | exact HB.out)) hb); clear HO_4; clear HB; have HO_4 := n0_; have HB := n1_; clear n0_ n1_; (try clear hb); (try clear hb2); (try clear hk); (try clear hi)) | (go_at_call 8; (with_reducible refine (utf_May.calls (((⟨#[97]⟩ : ByteArray) ++ (strOfNums x4_7)) ++ (⟨#[98]⟩ : ByteArray)) true _ (tabs_below HT.out (by repeat (first | (with_reducible first | exact HB.out | apply below_alloc | apply pw_below_drewN | apply below_drew1) | exact HB.out))) A28.out).mono ?_); rintro e w50 ⟨rfl, hb⟩; have n0_ := Aside0.mk (Kd.R_below (by (with_reducible repeat (first | apply Kd.R_alloc | apply Kd.R_drewN | apply Kd.R_drew)); exact HO_4.out) hb); have n1_ := Aside0.mk (below_step (by repeat (first | (with_reducible first | exact HB.out | apply below_alloc | apply pw_below_drewN | apply below_drew1) | exact HB.out)) hb); clear HO_4; clear HB; have HO_4 := n0_; have HB := n1_; clear n0_ n1_; (try clear hb); (try clear hb2); (try clear hk); (try clear hi)) | (go_at_call 10; (with_reducible refine (utf_Norm.calls (strOfNums x4_7) t164 _ (tabs_below HT.out (by repeat (first | (with_reducible first | exact HB.out | apply below_alloc | apply pw_below_drewN | apply below_drew1) | exact HB.out))) A30.out).mono ?_); rintro e w51 ⟨rfl, hb⟩; have n0_ := Aside0.mk (Kd.R_below (by (with_reducible repeat (first | apply Kd.R_alloc | apply Kd.R_drewN | apply Kd.R_drew)); exact HO_4.out) hb); have n1_ := Aside0.mk (below_step (by repeat (first | (with_reducible first | exact HB.out | apply below_alloc | apply pw_below_drewN | apply below_drew1) | exact HB.out)) hb); clear HO_4; clear HB; have HO_4 := n0_; have HB := n1_; clear n0_ n1_; (try clear hb); (try clear hb2); (try clear hk); (try clear hi)) | (go_at_call 8; (with_reducible refine (utf_May.calls ((strOfNums x4_7) ++ (⟨#[128]⟩ : ByteArray)) false _ (tabs_below HT.out (by repeat (first | (with_reducible first | exact HB.out | apply below_alloc | apply pw_below_drewN | apply below_drew1) | exact HB.out))) A32.out).mono ?_); rintro e w52 ⟨rfl, hb⟩; have n0_ := Aside0.mk (Kd.R_below (by (with_reducible repeat (first | apply Kd.R_alloc | apply Kd.R_drewN | apply Kd.R_drew)); exact HO_4.out) hb); have n1_ := Aside0.mk (below_step (by repeat (first | (with_reducible first | exact HB.out | apply below_alloc | apply pw_below_drewN | apply below_drew1) | exact HB.out)) hb); clear HO_4; clear HB; have HO_4 := n0_; have HB := n1_; clear n0_ n1_; (try clear hb); (try clear hb2); (try clear hk); (try clear hi)) | (go_at_call 10; (with_reducible refine (utf_Norm.calls ((strOfNums x4_7) ++ (⟨#[128]⟩ : ByteArray)) t166 _ (tabs_below HT.out (by repeat (first | (with_reducible first | exact HB.out | apply below_alloc | apply pw_below_drewN | apply below_drew1) | exact HB.out))) A39.out).mono ?_); rintro e w53 ⟨rfl, hb⟩; have n0_ := Aside0.mk (Kd.R_below (by (with_reducible repeat (first | apply Kd.R_alloc | apply Kd.R_drewN | apply Kd.R_drew)); exact HO_4.out) hb); have n1_ := Aside0.mk (below_step (by repeat (first | (with_reducible first | exact HB.out | apply below_alloc | apply pw_below_drewN | apply below_drew1) | exact HB.out)) hb); clear HO_4; clear HB; have HO_4 := n0_; have HB := n1_; clear n0_ n1_; (try clear hb); (try clear hb2); (try clear hk); (try clear hi)) | (go_at_call 8; (with_reducible refine (utf_May.calls ((strOfNums x4_7).extract 0 ((ji21) : Int).toNat) t167 _ (tabs_below HT.out (by repeat (first | (with_reducible first | exact HB.out | apply below_alloc | apply pw_below_drewN | apply below_drew1) | exact HB.out))) A42.out).mono ?_); rintro e w54 ⟨rfl, hb⟩; have n0_ := Aside0.mk (Kd.R_below (by (with_reducible repeat (first | apply Kd.R_alloc | apply Kd.R_drewN | apply Kd.R_drew)); exact HO_4.out) hb); have n1_ := Aside0.mk (below_step (by repeat (first | (with_reducible first | exact HB.out | apply below_alloc | apply pw_below_drewN | apply below_drew1) | exact HB.out)) hb); clear HO_4; clear HB; have HO_4 := n0_; have HB := n1_; clear n0_ n1_; (try clear hb); (try clear hb2); (try clear hk); (try clear hi); obtain ⟨Ao55, co55, eo55⟩ := Kd.R_slice HO_4.out; subst eo55) | (go_at_call 10; (with_reducible refine (utf_Norm.calls (((strOfNums x4_7).extract 0 ((ji21) : Int).toNat) ++ (⟨#[122]⟩ : ByteArray)) t168 _ (tabs_below HT.out (by repeat (first | (with_reducible first | exact HB.out | apply below_alloc | apply pw_below_drewN | apply below_drew1) | exact HB.out))) A45.out).mono ?_); rintro e w56 ⟨rfl, hb⟩; have n0_ := Aside0.mk (Kd.R_below (by (with_reducible repeat (first | apply Kd.R_alloc | apply Kd.R_drewN | apply Kd.R_drew)); exact HO_4.out) hb); have n1_ := Aside0.mk (below_step (by repeat (first | (with_reducible first | exact HB.out | apply below_alloc | apply pw_below_drewN | apply below_drew1) | exact HB.out)) hb); clear HO_4; clear HB; have HO_4 := n0_; have HB := n1_; clear n0_ n1_; (try clear hb); (try clear hb2); (try clear hk); (try clear hi)) | (go_at_call 15; (with_reducible refine (stolelaw0_Num.calls 0 t169 _ A47.out).mono ?_); rintro e w' ⟨rfl, ⟨nd, rfl⟩⟩))
                     all_goals first
                      | exact absurd (beq_iff_eq.mp c46b2) (by assumption)
                      | exact absurd (by assumption) (beq_eq_false_iff_ne.mp c46b2)
                      | (go_ret; exact ⟨by first | rfl | (simp [errW_none, errW_some] <;> rfl) | (simp only [← hji21]; first | rfl | (simp [errW_none, errW_some] <;> rfl)) | (simp [*, errW_none, errW_some] <;> rfl), by repeat (first | (with_reducible first | exact HB.out | apply below_alloc | apply pw_below_drewN | apply below_drew1) | exact HB.out)⟩)
                    ·rw [if_neg c46] at H
                     have c46b0 : ((t168.size : Int) == (wrap64 ((wrap64 (3 * (((strOfNums x4_7).extract 0 ((ji21) : Int).toNat).size : Int))) + 1))) = false := beq_eq_false_iff_ne.mpr c46
                     have c46b1 : ((t168.size : Int) != (wrap64 ((wrap64 (3 * (((strOfNums x4_7).extract 0 ((ji21) : Int).toNat).size : Int))) + 1))) = true := bne_iff_ne.mpr c46
                     have eq_ : (((strOfNums x4_7).extract 0 ((ji21) : Int).toNat).size : Int) = max ji21 0 := by have a_ := of_eq_true c22b0; have b_ := of_eq_true c23b0; rw [ByteArray.size_extract]; omega
                     have c46b2 := c46b0
                     rw [eq_] at c46b2
                     have c46b3 := c46b1
                     rw [eq_] at c46b3
                     have eqn_ : ((strOfNums x4_7).extract 0 ((ji21) : Int).toNat).size = (ji21).toNat := by have a_ := of_eq_true c22b0; have b_ := of_eq_true c23b0; rw [ByteArray.size_extract]; omega
                     have c44b3 := c44b2
                     rw [eqn_] at c44b3
                     clear eqn_
                     clear eq_
                     obtain rfl := Option.some.inj H
                     have hcv57 := own_string (P := Tryd.prog) Tryd.underlying26 Tryd.underlying5 Tryd.underlying9 (Kd.own_of_R HO_4.out)
                     go_wp2_with (first | ((with_reducible refine gate_callee (f := 8) rfl ?_); refine goesL_ (some 83) rfl rfl Tryd.func8 (by kernel_rfl) rfl #[.string (strOfNums x4_7)] rfl (by (try simp only [List.map_toArray, List.map_cons, List.map_nil]); first | done | rfl | (simp only [List.length_drop, List.length_take]; rfl)) ?_; (with_reducible refine (utf_May.calls (strOfNums x4_7) true _ (tabs_below HT.out (by repeat (first | (with_reducible first | exact HB.out | apply below_alloc | apply pw_below_drewN | apply below_drew1) | exact HB.out))) A24.out).mono ?_); rintro e w58 ⟨rfl, hb⟩; refine ⟨_, rfl, ?_⟩; have n0_ := Aside0.mk (Kd.R_below (by (with_reducible repeat (first | apply Kd.R_alloc | apply Kd.R_drewN | apply Kd.R_drew)); exact HO_4.out) hb); have n1_ := Aside0.mk (below_step (by repeat (first | (with_reducible first | exact HB.out | apply below_alloc | apply pw_below_drewN | apply below_drew1) | exact HB.out)) hb); clear HO_4; clear HB; have HO_4 := n0_; have HB := n1_; clear n0_ n1_; (try clear hb); (try clear hb2); (try clear hk); (try clear hi)) | (go_at_call 8; (with_reducible refine (utf_May.calls (((⟨#[97]⟩ : ByteArray) ++ (strOfNums x4_7)) ++ (⟨#[98]⟩ : ByteArray)) true _ (tabs_below HT.out (by repeat (first | (with_reducible first | exact HB.out | apply below_alloc | apply pw_below_drewN | apply below_drew1) | exact HB.out))) A28.out).mono ?_); rintro e w59 ⟨rfl, hb⟩; have n0_ := Aside0.mk (Kd.R_below (by (with_reducible repeat (first | apply Kd.R_alloc | apply Kd.R_drewN | apply Kd.R_drew)); exact HO_4.out) hb); have n1_ := Aside0.mk (below_step (by repeat (first | (with_reducible first | exact HB.out | apply below_alloc | apply pw_below_drewN | apply below_drew1) | exact HB.out)) hb); clear HO_4; clear HB; have HO_4 := n0_; have HB := n1_; clear n0_ n1_; (try clear hb); (try clear hb2); (try clear hk); (try clear hi)) | (go_at_call 10; (with_reducible refine (utf_Norm.calls (strOfNums x4_7) t164 _ (tabs_below HT.out (by repeat (first | (with_reducible first | exact HB.out | apply below_alloc | apply pw_below_drewN | apply below_drew1) | exact HB.out))) A30.out).mono ?_); rintro e w60 ⟨rfl, hb⟩; have n0_ := Aside0.mk (Kd.R_below (by (with_reducible repeat (first | apply Kd.R_alloc | apply Kd.R_drewN | apply Kd.R_drew)); exact HO_4.out) hb); have n1_ := Aside0.mk (below_step (by repeat (first | (with_reducible first | exact HB.out | apply below_alloc | apply pw_below_drewN | apply below_drew1) | exact HB.out)) hb); clear HO_4; clear HB; have HO_4 := n0_; have HB := n1_; clear n0_ n1_; (try clear hb); (try clear hb2); (try clear hk); (try clear hi)) | (go_at_call 8; (with_reducible refine (utf_May.calls ((strOfNums x4_7) ++ (⟨#[128]⟩ : ByteArray)) false _ (tabs_below HT.out (by repeat (first | (with_reducible first | exact HB.out | apply below_alloc | apply pw_below_drewN | apply below_drew1) | exact HB.out))) A32.out).mono ?_); rintro e w61 ⟨rfl, hb⟩; have n0_ := Aside0.mk (Kd.R_below (by (with_reducible repeat (first | apply Kd.R_alloc | apply Kd.R_drewN | apply Kd.R_drew)); exact HO_4.out) hb); have n1_ := Aside0.mk (below_step (by repeat (first | (with_reducible first | exact HB.out | apply below_alloc | apply pw_below_drewN | apply below_drew1) | exact HB.out)) hb); clear HO_4; clear HB; have HO_4 := n0_; have HB := n1_; clear n0_ n1_; (try clear hb); (try clear hb2); (try clear hk); (try clear hi)) | (go_at_call 10; (with_reducible refine (utf_Norm.calls ((strOfNums x4_7) ++ (⟨#[128]⟩ : ByteArray)) t166 _ (tabs_below HT.out (by repeat (first | (with_reducible first | exact HB.out | apply below_alloc | apply pw_below_drewN | apply below_drew1) | exact HB.out))) A39.out).mono ?_); rintro e w62 ⟨rfl, hb⟩; have n0_ := Aside0.mk (Kd.R_below (by (with_reducible repeat (first | apply Kd.R_alloc | apply Kd.R_drewN | apply Kd.R_drew)); exact HO_4.out) hb); have n1_ := Aside0.mk (below_step (by repeat (first | (with_reducible first | exact HB.out | apply below_alloc | apply pw_below_drewN | apply below_drew1) | exact HB.out)) hb); clear HO_4; clear HB; have HO_4 := n0_; have HB := n1_; clear n0_ n1_; (try clear hb); (try clear hb2); (try clear hk); (try clear hi)) | (go_at_call 8; (with_reducible refine (utf_May.calls ((strOfNums x4_7).extract 0 ((ji21) : Int).toNat) t167 _ (tabs_below HT.out (by repeat (first | (with_reducible first | exact HB.out | apply below_alloc | apply pw_below_drewN | apply below_drew1) | exact HB.out))) A42.out).mono ?_); rintro e w63 ⟨rfl, hb⟩; have n0_ := Aside0.mk (Kd.R_below (by (with_reducible repeat (first | apply Kd.R_alloc | apply Kd.R_drewN | apply Kd.R_drew)); exact HO_4.out) hb); have n1_ := Aside0.mk (below_step (by repeat (first | (with_reducible first | exact HB.out | apply below_alloc | apply pw_below_drewN | apply below_drew1) | exact HB.out)) hb); clear HO_4; clear HB; have HO_4 := n0_; have HB := n1_; clear n0_ n1_; (try clear hb); (try clear hb2); (try clear hk); (try clear hi); obtain ⟨Ao64, co64, eo64⟩ := Kd.R_slice HO_4.out; subst eo64) | (go_at_call 10; (with_reducible refine (utf_Norm.calls (((strOfNums x4_7).extract 0 ((ji21) : Int).toNat) ++ (⟨#[122]⟩ : ByteArray)) t168 _ (tabs_below HT.out (by repeat (first | (with_reducible first | exact HB.out | apply below_alloc | apply pw_below_drewN | apply below_drew1) | exact HB.out))) A45.out).mono ?_); rintro e w65 ⟨rfl, hb⟩; have n0_ := Aside0.mk (Kd.R_below (by (with_reducible repeat (first | apply Kd.R_alloc | apply Kd.R_drewN | apply Kd.R_drew)); exact HO_4.out) hb); have n1_ := Aside0.mk (below_step (by repeat (first | (with_reducible first | exact HB.out | apply below_alloc | apply pw_below_drewN | apply below_drew1) | exact HB.out)) hb); clear HO_4; clear HB; have HO_4 := n0_; have HB := n1_; clear n0_ n1_; (try clear hb); (try clear hb2); (try clear hk); (try clear hi)))
                     all_goals first
                      | exact absurd (beq_iff_eq.mp c46b2) (by assumption)
                      | exact absurd (by assumption) (beq_eq_false_iff_ne.mp c46b2)
                      | (go_ret; exact ⟨by first | rfl | (simp [errW_none, errW_some] <;> rfl) | (simp only [← hji21]; first | rfl | (simp [errW_none, errW_some] <;> rfl)) | (simp [*, errW_none, errW_some] <;> rfl), by repeat (first | (with_reducible first | exact HB.out | apply below_alloc | apply pw_below_drewN | apply below_drew1) | exact HB.out)⟩)
                   ·rw [if_neg c44] at H
                    exact absurd H (by simp)
                  ·rw [if_neg c43] at H
                   have c43b0 : (t167 == ((x4_7.length : Int) == 1)) = false := by simpa using c43
                   (try (have c43b1 : decide (t167 = ((x4_7.length : Int) == 1)) = false := by simpa using c43))
                   (try (have c43b2 : (t167 == ((x4_7.length : Int) == 1)) = false := by simpa using c43))
                   (try (have c43b3 : ¬ (t167 = ((x4_7.length : Int) == 1)) := by simpa using c43))
                   clear c43
                   obtain rfl := Option.some.inj H
                   have hcv66 := own_string (P := Tryd.prog) Tryd.underlying26 Tryd.underlying5 Tryd.underlying9 (Kd.own_of_R HO_4.out)
                   go_wp2_with (first | ((with_reducible refine gate_callee (f := 8) rfl ?_); refine goesL_ (some 83) rfl rfl Tryd.func8 (by kernel_rfl) rfl #[.string (strOfNums x4_7)] rfl (by (try simp only [List.map_toArray, List.map_cons, List.map_nil]); first | done | rfl | (simp only [List.length_drop, List.length_take]; rfl)) ?_; (with_reducible refine (utf_May.calls (strOfNums x4_7) true _ (tabs_below HT.out (by repeat (first | (with_reducible first | exact HB.out | apply below_alloc | apply pw_below_drewN | apply below_drew1) | exact HB.out))) A24.out).mono ?_); rintro e w67 ⟨rfl, hb⟩; refine ⟨_, rfl, ?_⟩; have n0_ := Aside0.mk (Kd.R_below (by (with_reducible repeat (first | apply Kd.R_alloc | apply Kd.R_drewN | apply Kd.R_drew)); exact HO_4.out) hb); have n1_ := Aside0.mk (below_step (by repeat (first | (with_reducible first | exact HB.out | apply below_alloc | apply pw_below_drewN | apply below_drew1) | exact HB.out)) hb); clear HO_4; clear HB; have HO_4 := n0_; have HB := n1_; clear n0_ n1_; (try clear hb); (try clear hb2); (try clear hk); (try clear hi)) | (go_at_call 8; (with_reducible refine (utf_May.calls (((⟨#[97]⟩ : ByteArray) ++ (strOfNums x4_7)) ++ (⟨#[98]⟩ : ByteArray)) true _ (tabs_below HT.out (by repeat (first | (with_reducible first | exact HB.out | apply below_alloc | apply pw_below_drewN | apply below_drew1) | exact HB.out))) A28.out).mono ?_); rintro e w68 ⟨rfl, hb⟩; have n0_ := Aside0.mk (Kd.R_below (by (with_reducible repeat (first | apply Kd.R_alloc | apply Kd.R_drewN | apply Kd.R_drew)); exact HO_4.out) hb); have n1_ := Aside0.mk (below_step (by repeat (first | (with_reducible first | exact HB.out | apply below_alloc | apply pw_below_drewN | apply below_drew1) | exact HB.out)) hb); clear HO_4; clear HB; have HO_4 := n0_; have HB := n1_; clear n0_ n1_; (try clear hb); (try clear hb2); (try clear hk); (try clear hi)) | (go_at_call 10; (with_reducible refine (utf_Norm.calls (strOfNums x4_7) t164 _ (tabs_below HT.out (by repeat (first | (with_reducible first | exact HB.out | apply below_alloc | apply pw_below_drewN | apply below_drew1) | exact HB.out))) A30.out).mono ?_); rintro e w69 ⟨rfl, hb⟩; have n0_ := Aside0.mk (Kd.R_below (by (with_reducible repeat (first | apply Kd.R_alloc | apply Kd.R_drewN | apply Kd.R_drew)); exact HO_4.out) hb); have n1_ := Aside0.mk (below_step (by repeat (first | (with_reducible first | exact HB.out | apply below_alloc | apply pw_below_drewN | apply below_drew1) | exact HB.out)) hb); clear HO_4; clear HB; have HO_4 := n0_; have HB := n1_; clear n0_ n1_; (try clear hb); (try clear hb2); (try clear hk); (try clear hi)) | (go_at_call 8; (with_reducible refine (utf_May.calls ((strOfNums x4_7) ++ (⟨#[128]⟩ : ByteArray)) false _ (tabs_below HT.out (by repeat (first | (with_reducible first | exact HB.out | apply below_alloc | apply pw_below_drewN | apply below_drew1) | exact HB.out))) A32.out).mono ?_); rintro e w70 ⟨rfl, hb⟩; have n0_ := Aside0.mk (Kd.R_below (by (with_reducible repeat (first | apply Kd.R_alloc | apply Kd.R_drewN | apply Kd.R_drew)); exact HO_4.out) hb); have n1_ := Aside0.mk (below_step (by repeat (first | (with_reducible first | exact HB.out | apply below_alloc | apply pw_below_drewN | apply below_drew1) | exact HB.out)) hb); clear HO_4; clear HB; have HO_4 := n0_; have HB := n1_; clear n0_ n1_; (try clear hb); (try clear hb2); (try clear hk); (try clear hi)) | (go_at_call 10; (with_reducible refine (utf_Norm.calls ((strOfNums x4_7) ++ (⟨#[128]⟩ : ByteArray)) t166 _ (tabs_below HT.out (by repeat (first | (with_reducible first | exact HB.out | apply below_alloc | apply pw_below_drewN | apply below_drew1) | exact HB.out))) A39.out).mono ?_); rintro e w71 ⟨rfl, hb⟩; have n0_ := Aside0.mk (Kd.R_below (by (with_reducible repeat (first | apply Kd.R_alloc | apply Kd.R_drewN | apply Kd.R_drew)); exact HO_4.out) hb); have n1_ := Aside0.mk (below_step (by repeat (first | (with_reducible first | exact HB.out | apply below_alloc | apply pw_below_drewN | apply below_drew1) | exact HB.out)) hb); clear HO_4; clear HB; have HO_4 := n0_; have HB := n1_; clear n0_ n1_; (try clear hb); (try clear hb2); (try clear hk); (try clear hi)) | (go_at_call 8; (with_reducible refine (utf_May.calls ((strOfNums x4_7).extract 0 ((ji21) : Int).toNat) t167 _ (tabs_below HT.out (by repeat (first | (with_reducible first | exact HB.out | apply below_alloc | apply pw_below_drewN | apply below_drew1) | exact HB.out))) A42.out).mono ?_); rintro e w72 ⟨rfl, hb⟩; have n0_ := Aside0.mk (Kd.R_below (by (with_reducible repeat (first | apply Kd.R_alloc | apply Kd.R_drewN | apply Kd.R_drew)); exact HO_4.out) hb); have n1_ := Aside0.mk (below_step (by repeat (first | (with_reducible first | exact HB.out | apply below_alloc | apply pw_below_drewN | apply below_drew1) | exact HB.out)) hb); clear HO_4; clear HB; have HO_4 := n0_; have HB := n1_; clear n0_ n1_; (try clear hb); (try clear hb2); (try clear hk); (try clear hi); obtain ⟨Ao73, co73, eo73⟩ := Kd.R_slice HO_4.out; subst eo73))
                   go_ret
                   exact ⟨by first | rfl | (simp [errW_none, errW_some] <;> rfl) | (simp only [← hji21]; first | rfl | (simp [errW_none, errW_some] <;> rfl)) | (simp [*, errW_none, errW_some] <;> rfl), by repeat (first | (with_reducible first | exact HB.out | apply below_alloc | apply pw_below_drewN | apply below_drew1) | exact HB.out)⟩
                 ·rw [if_neg c41] at H
                  have c41b0 : (t166.toList == ((strOfNums x4_7) ++ (⟨#[239, 191, 189]⟩ : ByteArray)).toList) = false := beq_eq_false_iff_ne.mpr c41
                  have c41b1 : (t166.toList != ((strOfNums x4_7) ++ (⟨#[239, 191, 189]⟩ : ByteArray)).toList) = true := bne_iff_ne.mpr c41
                  obtain rfl := Option.some.inj H
                  have hcv74 := own_string (P := Tryd.prog) Tryd.underlying26 Tryd.underlying5 Tryd.underlying9 (Kd.own_of_R HO_4.out)
                  go_wp2_with (first | ((with_reducible refine gate_callee (f := 8) rfl ?_); refine goesL_ (some 83) rfl rfl Tryd.func8 (by kernel_rfl) rfl #[.string (strOfNums x4_7)] rfl (by (try simp only [List.map_toArray, List.map_cons, List.map_nil]); first | done | rfl | (simp only [List.length_drop, List.length_take]; rfl)) ?_; (with_reducible refine (utf_May.calls (strOfNums x4_7) true _ (tabs_below HT.out (by repeat (first | (with_reducible first | exact HB.out | apply below_alloc | apply pw_below_drewN | apply below_drew1) | exact HB.out))) A24.out).mono ?_); rintro e w75 ⟨rfl, hb⟩; refine ⟨_, rfl, ?_⟩; have n0_ := Aside0.mk (Kd.R_below (by (with_reducible repeat (first | apply Kd.R_alloc | apply Kd.R_drewN | apply Kd.R_drew)); exact HO_4.out) hb); have n1_ := Aside0.mk (below_step (by repeat (first | (with_reducible first | exact HB.out | apply below_alloc | apply pw_below_drewN | apply below_drew1) | exact HB.out)) hb); clear HO_4; clear HB; have HO_4 := n0_; have HB := n1_; clear n0_ n1_; (try clear hb); (try clear hb2); (try clear hk); (try clear hi)) | (go_at_call 8; (with_reducible refine (utf_May.calls (((⟨#[97]⟩ : ByteArray) ++ (strOfNums x4_7)) ++ (⟨#[98]⟩ : ByteArray)) true _ (tabs_below HT.out (by repeat (first | (with_reducible first | exact HB.out | apply below_alloc | apply pw_below_drewN | apply below_drew1) | exact HB.out))) A28.out).mono ?_); rintro e w76 ⟨rfl, hb⟩; have n0_ := Aside0.mk (Kd.R_below (by (with_reducible repeat (first | apply Kd.R_alloc | apply Kd.R_drewN | apply Kd.R_drew)); exact HO_4.out) hb); have n1_ := Aside0.mk (below_step (by repeat (first | (with_reducible first | exact HB.out | apply below_alloc | apply pw_below_drewN | apply below_drew1) | exact HB.out)) hb); clear HO_4; clear HB; have HO_4 := n0_; have HB := n1_; clear n0_ n1_; (try clear hb); (try clear hb2); (try clear hk); (try clear hi)) | (go_at_call 10; (with_reducible refine (utf_Norm.calls (strOfNums x4_7) t164 _ (tabs_below HT.out (by repeat (first | (with_reducible first | exact HB.out | apply below_alloc | apply pw_below_drewN | apply below_drew1) | exact HB.out))) A30.out).mono ?_); rintro e w77 ⟨rfl, hb⟩; have n0_ := Aside0.mk (Kd.R_below (by (with_reducible repeat (first | apply Kd.R_alloc | apply Kd.R_drewN | apply Kd.R_drew)); exact HO_4.out) hb); have n1_ := Aside0.mk (below_step (by repeat (first | (with_reducible first | exact HB.out | apply below_alloc | apply pw_below_drewN | apply below_drew1) | exact HB.out)) hb); clear HO_4; clear HB; have HO_4 := n0_; have HB := n1_; clear n0_ n1_; (try clear hb); (try clear hb2); (try clear hk); (try clear hi)) | (go_at_call 8; (with_reducible refine (utf_May.calls ((strOfNums x4_7) ++ (⟨#[128]⟩ : ByteArray)) false _ (tabs_below HT.out (by repeat (first | (with_reducible first | exact HB.out | apply below_alloc | apply pw_below_drewN | apply below_drew1) | exact HB.out))) A32.out).mono ?_); rintro e w78 ⟨rfl, hb⟩; have n0_ := Aside0.mk (Kd.R_below (by (with_reducible repeat (first | apply Kd.R_alloc | apply Kd.R_drewN | apply Kd.R_drew)); exact HO_4.out) hb); have n1_ := Aside0.mk (below_step (by repeat (first | (with_reducible first | exact HB.out | apply below_alloc | apply pw_below_drewN | apply below_drew1) | exact HB.out)) hb); clear HO_4; clear HB; have HO_4 := n0_; have HB := n1_; clear n0_ n1_; (try clear hb); (try clear hb2); (try clear hk); (try clear hi)) | (go_at_call 10; (with_reducible refine (utf_Norm.calls ((strOfNums x4_7) ++ (⟨#[128]⟩ : ByteArray)) t166 _ (tabs_below HT.out (by repeat (first | (with_reducible first | exact HB.out | apply below_alloc | apply pw_below_drewN | apply below_drew1) | exact HB.out))) A39.out).mono ?_); rintro e w79 ⟨rfl, hb⟩; have n0_ := Aside0.mk (Kd.R_below (by (with_reducible repeat (first | apply Kd.R_alloc | apply Kd.R_drewN | apply Kd.R_drew)); exact HO_4.out) hb); have n1_ := Aside0.mk (below_step (by repeat (first | (with_reducible first | exact HB.out | apply below_alloc | apply pw_below_drewN | apply below_drew1) | exact HB.out)) hb); clear HO_4; clear HB; have HO_4 := n0_; have HB := n1_; clear n0_ n1_; (try clear hb); (try clear hb2); (try clear hk); (try clear hi)))
                  go_ret
                  exact ⟨by first | rfl | (simp [errW_none, errW_some] <;> rfl) | (simp only [← hji21]; first | rfl | (simp [errW_none, errW_some] <;> rfl)) | (simp [*, errW_none, errW_some] <;> rfl), by repeat (first | (with_reducible first | exact HB.out | apply below_alloc | apply pw_below_drewN | apply below_drew1) | exact HB.out)⟩
                ·rw [if_neg c40] at H
                 exact absurd H (by simp)
              ·rw [if_neg c31] at H
               have c31b0 : (t164.toList == (strOfNums x4_7).toList) = false := beq_eq_false_iff_ne.mpr c31
               have c31b1 : (t164.toList != (strOfNums x4_7).toList) = true := bne_iff_ne.mpr c31
               obtain rfl := Option.some.inj H
               have hcv80 := own_string (P := Tryd.prog) Tryd.underlying26 Tryd.underlying5 Tryd.underlying9 (Kd.own_of_R HO_4.out)
               go_wp2_with (first | ((with_reducible refine gate_callee (f := 8) rfl ?_); refine goesL_ (some 83) rfl rfl Tryd.func8 (by kernel_rfl) rfl #[.string (strOfNums x4_7)] rfl (by (try simp only [List.map_toArray, List.map_cons, List.map_nil]); first | done | rfl | (simp only [List.length_drop, List.length_take]; rfl)) ?_; (with_reducible refine (utf_May.calls (strOfNums x4_7) true _ (tabs_below HT.out (by repeat (first | (with_reducible first | exact HB.out | apply below_alloc | apply pw_below_drewN | apply below_drew1) | exact HB.out))) A24.out).mono ?_); rintro e w81 ⟨rfl, hb⟩; refine ⟨_, rfl, ?_⟩; have n0_ := Aside0.mk (Kd.R_below (by (with_reducible repeat (first | apply Kd.R_alloc | apply Kd.R_drewN | apply Kd.R_drew)); exact HO_4.out) hb); have n1_ := Aside0.mk (below_step (by repeat (first | (with_reducible first | exact HB.out | apply below_alloc | apply pw_below_drewN | apply below_drew1) | exact HB.out)) hb); clear HO_4; clear HB; have HO_4 := n0_; have HB := n1_; clear n0_ n1_; (try clear hb); (try clear hb2); (try clear hk); (try clear hi)) | (go_at_call 8; (with_reducible refine (utf_May.calls (((⟨#[97]⟩ : ByteArray) ++ (strOfNums x4_7)) ++ (⟨#[98]⟩ : ByteArray)) true _ (tabs_below HT.out (by repeat (first | (with_reducible first | exact HB.out | apply below_alloc | apply pw_below_drewN | apply below_drew1) | exact HB.out))) A28.out).mono ?_); rintro e w82 ⟨rfl, hb⟩; have n0_ := Aside0.mk (Kd.R_below (by (with_reducible repeat (first | apply Kd.R_alloc | apply Kd.R_drewN | apply Kd.R_drew)); exact HO_4.out) hb); have n1_ := Aside0.mk (below_step (by repeat (first | (with_reducible first | exact HB.out | apply below_alloc | apply pw_below_drewN | apply below_drew1) | exact HB.out)) hb); clear HO_4; clear HB; have HO_4 := n0_; have HB := n1_; clear n0_ n1_; (try clear hb); (try clear hb2); (try clear hk); (try clear hi)) | (go_at_call 10; (with_reducible refine (utf_Norm.calls (strOfNums x4_7) t164 _ (tabs_below HT.out (by repeat (first | (with_reducible first | exact HB.out | apply below_alloc | apply pw_below_drewN | apply below_drew1) | exact HB.out))) A30.out).mono ?_); rintro e w83 ⟨rfl, hb⟩; have n0_ := Aside0.mk (Kd.R_below (by (with_reducible repeat (first | apply Kd.R_alloc | apply Kd.R_drewN | apply Kd.R_drew)); exact HO_4.out) hb); have n1_ := Aside0.mk (below_step (by repeat (first | (with_reducible first | exact HB.out | apply below_alloc | apply pw_below_drewN | apply below_drew1) | exact HB.out)) hb); clear HO_4; clear HB; have HO_4 := n0_; have HB := n1_; clear n0_ n1_; (try clear hb); (try clear hb2); (try clear hk); (try clear hi)))
               go_ret
               exact ⟨by first | rfl | (simp [errW_none, errW_some] <;> rfl) | (simp only [← hji21]; first | rfl | (simp [errW_none, errW_some] <;> rfl)) | (simp [*, errW_none, errW_some] <;> rfl), by repeat (first | (with_reducible first | exact HB.out | apply below_alloc | apply pw_below_drewN | apply below_drew1) | exact HB.out)⟩
             ·replace c29 := Bool.eq_false_iff.mpr c29
              subst c29
              have H1 : (some false) = some r := by rw [if_neg (show ¬ (false = true) by decide)] at H; exact H
              clear H
              have H := H1
              clear H1
              obtain rfl := Option.some.inj H
              have hcv84 := own_string (P := Tryd.prog) Tryd.underlying26 Tryd.underlying5 Tryd.underlying9 (Kd.own_of_R HO_4.out)
              go_wp2_with (first | ((with_reducible refine gate_callee (f := 8) rfl ?_); refine goesL_ (some 83) rfl rfl Tryd.func8 (by kernel_rfl) rfl #[.string (strOfNums x4_7)] rfl (by (try simp only [List.map_toArray, List.map_cons, List.map_nil]); first | done | rfl | (simp only [List.length_drop, List.length_take]; rfl)) ?_; (with_reducible refine (utf_May.calls (strOfNums x4_7) true _ (tabs_below HT.out (by repeat (first | (with_reducible first | exact HB.out | apply below_alloc | apply pw_below_drewN | apply below_drew1) | exact HB.out))) A24.out).mono ?_); rintro e w85 ⟨rfl, hb⟩; refine ⟨_, rfl, ?_⟩; have n0_ := Aside0.mk (Kd.R_below (by (with_reducible repeat (first | apply Kd.R_alloc | apply Kd.R_drewN | apply Kd.R_drew)); exact HO_4.out) hb); have n1_ := Aside0.mk (below_step (by repeat (first | (with_reducible first | exact HB.out | apply below_alloc | apply pw_below_drewN | apply below_drew1) | exact HB.out)) hb); clear HO_4; clear HB; have HO_4 := n0_; have HB := n1_; clear n0_ n1_; (try clear hb); (try clear hb2); (try clear hk); (try clear hi)) | (go_at_call 8; (with_reducible refine (utf_May.calls (((⟨#[97]⟩ : ByteArray) ++ (strOfNums x4_7)) ++ (⟨#[98]⟩ : ByteArray)) false _ (tabs_below HT.out (by repeat (first | (with_reducible first | exact HB.out | apply below_alloc | apply pw_below_drewN | apply below_drew1) | exact HB.out))) A28.out).mono ?_); rintro e w86 ⟨rfl, hb⟩; have n0_ := Aside0.mk (Kd.R_below (by (with_reducible repeat (first | apply Kd.R_alloc | apply Kd.R_drewN | apply Kd.R_drew)); exact HO_4.out) hb); have n1_ := Aside0.mk (below_step (by repeat (first | (with_reducible first | exact HB.out | apply below_alloc | apply pw_below_drewN | apply below_drew1) | exact HB.out)) hb); clear HO_4; clear HB; have HO_4 := n0_; have HB := n1_; clear n0_ n1_; (try clear hb); (try clear hb2); (try clear hk); (try clear hi)))
              go_ret
              exact ⟨by first | rfl | (simp [errW_none, errW_some] <;> rfl) | (simp only [← hji21]; first | rfl | (simp [errW_none, errW_some] <;> rfl)) | (simp [*, errW_none, errW_some] <;> rfl), by repeat (first | (with_reducible first | exact HB.out | apply below_alloc | apply pw_below_drewN | apply below_drew1) | exact HB.out)⟩
            ·rw [if_neg c27] at H
             exact absurd H (by simp)
           ·rw [if_neg c26] at H
            exact absurd H (by simp)
          ·replace c25 := Bool.eq_false_iff.mpr c25
           subst c25
           have H1 : (some false) = some r := by rw [if_neg (show ¬ (false = true) by decide)] at H; exact H
           clear H
           have H := H1
           clear H1
           obtain rfl := Option.some.inj H
           have hcv87 := own_string (P := Tryd.prog) Tryd.underlying26 Tryd.underlying5 Tryd.underlying9 (Kd.own_of_R HO_4.out)
           go_wp2_with (first | ((with_reducible refine gate_callee (f := 8) rfl ?_); refine goesL_ (some 83) rfl rfl Tryd.func8 (by kernel_rfl) rfl #[.string (strOfNums x4_7)] rfl (by (try simp only [List.map_toArray, List.map_cons, List.map_nil]); first | done | rfl | (simp only [List.length_drop, List.length_take]; rfl)) ?_; (with_reducible refine (utf_May.calls (strOfNums x4_7) false _ (tabs_below HT.out (by repeat (first | (with_reducible first | exact HB.out | apply below_alloc | apply pw_below_drewN | apply below_drew1) | exact HB.out))) A24.out).mono ?_); rintro e w88 ⟨rfl, hb⟩; refine ⟨_, rfl, ?_⟩; have n0_ := Aside0.mk (Kd.R_below (by (with_reducible repeat (first | apply Kd.R_alloc | apply Kd.R_drewN | apply Kd.R_drew)); exact HO_4.out) hb); have n1_ := Aside0.mk (below_step (by repeat (first | (with_reducible first | exact HB.out | apply below_alloc | apply pw_below_drewN | apply below_drew1) | exact HB.out)) hb); clear HO_4; clear HB; have HO_4 := n0_; have HB := n1_; clear n0_ n1_; (try clear hb); (try clear hb2); (try clear hk); (try clear hi)))
           go_ret
           exact ⟨by first | rfl | (simp [errW_none, errW_some] <;> rfl) | (simp only [← hji21]; first | rfl | (simp [errW_none, errW_some] <;> rfl)) | (simp [*, errW_none, errW_some] <;> rfl), by repeat (first | (with_reducible first | exact HB.out | apply below_alloc | apply pw_below_drewN | apply below_drew1) | exact HB.out)⟩
         ·rw [if_neg c23] at H
          exact absurd H (by simp)
        ·rw [if_neg c22] at H
         exact absurd H (by simp)
       ·rw [if_neg c20] at H
        exact absurd H (by simp)
 ·replace c3 := Bool.eq_false_iff.mpr c3
  subst c3
  have H1 : (some false) = some r := by rw [if_neg (show ¬ (false = true) by decide)] at H; exact H
  clear H
  have H := H1
  clear H1
  obtain rfl := Option.some.inj H
  go_enter Tryd.func6, Tryd.ntmps6
  go_wp2_with (first | ((with_reducible refine gate_callee (f := 14) rfl ?_); refine goesL_ (some 8) rfl rfl Tryd.func14 (by kernel_rfl) rfl #[] rfl (by (try simp only [List.map_toArray, List.map_cons, List.map_nil]); first | done | rfl | (simp only [List.length_drop, List.length_take]; rfl)) ?_; (with_reducible refine (stolelaw1_awake.calls  false _ (tabs_below HT.out (by repeat (first | (with_reducible first | exact HB.out | apply below_alloc | apply pw_below_drewN | apply below_drew1) | exact HB.out))) A2.out).mono ?_); rintro e w89 ⟨rfl, hb⟩; refine ⟨_, rfl, ?_⟩; have n0_ := Aside0.mk (below_step (by repeat (first | (with_reducible first | exact HB.out | apply below_alloc | apply pw_below_drewN | apply below_drew1) | exact HB.out)) hb); clear HB; have HB := n0_; clear n0_; (try clear hb); (try clear hb2); (try clear hk); (try clear hi)))
  go_ret
  exact ⟨by first | rfl | (simp [errW_none, errW_some] <;> rfl) | (simp [*, errW_none, errW_some] <;> rfl), by repeat (first | (with_reducible first | exact HB.out | apply below_alloc | apply pw_below_drewN | apply below_drew1) | exact HB.out)⟩

/-- THE ONE PURE STATEMENT of stolelaw1_UtfSigns: yours. -/
def stolelaw1_UtfSigns.Pure : Prop := ∀ (a0 : Int), (Lit.int .i64 a0).wf = true → ∃ k, stolelaw1_UtfSigns.f k a0 = some true
theorem stolelaw1_UtfSigns.walk (P : stolelaw1_UtfSigns.Pure) (a0 : Int) (w : World) (hT : Tabs w) (w0 : (Lit.int .i64 a0).wf = true) :
  Calls Tryd.prog 6 #[.int .i64 a0] w fun e w' => e = .returned (.bool true) ∧ Below w.heap.size w w' := by
 obtain ⟨k, h⟩ := P a0 w0
 refine (stolelaw1_UtfSigns.calls k a0 true w hT h).mono ?_
 rintro e w' ⟨rfl, hd⟩
 exact ⟨rfl, hd⟩

/-! ### stolelaw1_UtfSpoilt: function 7 -/
mutual
def stolelaw1_UtfSpoilt.j1 : Nat → List Int → ByteArray → ByteArray → ByteArray → Option (Bool)
 | 0, _, _, _, _ => none
 | k + 1, x0, x1, x5, x6 => (utf_Norm.f x1).bind fun t179 => (if x5.size + 1 ≤ 9223372036854775807 then (if x5.size + 1 + t179.size ≤ 9223372036854775807 then ((utf_Norm.f ((x5 ++ (⟨#[121]⟩ : ByteArray)) ++ t179)).bind fun t180 => (if x6.size + 1 ≤ 9223372036854775807 then (if x6.size + 1 + t179.size ≤ 9223372036854775807 then (if t180.toList = ((x6 ++ (⟨#[121]⟩ : ByteArray)) ++ t179).toList then ((utf_May.f x5).bind fun t181 => (if (t181 == ((x0.length : Int) == 0)) = true then ((stolelaw0_Num.f 0).bind fun t182 => (some (t182 == 0))) else (some false))) else (some false)) else (none)) else (none))) else (none)) else (none))
def stolelaw1_UtfSpoilt.l0 : Nat → List Int → ByteArray → ByteArray → ByteArray → Int → Option (Bool)
 | 0, _, _, _, _, _ => none
 | k + 1, x0, x1, x5, x6, x7 => if x7 < (x0.length : Int) then (if x7 < 30 then ((some (([255, 192, 245, 128, 0] : List Int) : List Int)).bind fun y171 => (if 0 ≤ x7 then (if 0 ≤ (wrap64 (Int.tmod (IntKind.u64.wrap (rd x0 x7)) 5)) then (if (wrap64 (Int.tmod (IntKind.u64.wrap (rd x0 x7)) 5)) < (y171.length : Int) then (if x5.size + 1 ≤ 9223372036854775807 then ((some (([rd y171 (wrap64 (Int.tmod (IntKind.u64.wrap (rd x0 x7)) 5))] : List Int) : List Int)).bind fun y176 => (if x5.size + 1 + (strOfNums y176).size ≤ 9223372036854775807 then (if x6.size + 4 ≤ 9223372036854775807 then (stolelaw1_UtfSpoilt.l0 k x0 x1 ((x5 ++ (⟨#[120]⟩ : ByteArray)) ++ (strOfNums y176)) (x6 ++ (⟨#[120, 239, 191, 189]⟩ : ByteArray)) (wrap64 (x7 + 1))) else (none)) else (none))) else (none)) else (none)) else (none)) else (none))) else (stolelaw1_UtfSpoilt.j1 k x0 x1 x5 x6)) else (stolelaw1_UtfSpoilt.j1 k x0 x1 x5 x6)
end
def stolelaw1_UtfSpoilt.f (k : Nat) (l0 : List Int) (a1 : ByteArray) : Option (Bool) := (stolelaw1_awake.f).bind fun t170 => (if t170 = true then (stolelaw1_UtfSpoilt.l0 k l0 a1 (⟨#[]⟩ : ByteArray) (⟨#[]⟩ : ByteArray) 0) else (some false))
theorem stolelaw1_UtfSpoilt.mono_l : ∀ k, (∀ y0 y1 y2 y3, LeO (stolelaw1_UtfSpoilt.j1 k y0 y1 y2 y3) (stolelaw1_UtfSpoilt.j1 (k + 1) y0 y1 y2 y3)) ∧ (∀ y0 y1 y2 y3 y4, LeO (stolelaw1_UtfSpoilt.l0 k y0 y1 y2 y3 y4) (stolelaw1_UtfSpoilt.l0 (k + 1) y0 y1 y2 y3 y4))
 | 0 => ⟨fun _ _ _ _ r h => by simp [stolelaw1_UtfSpoilt.j1] at h, fun _ _ _ _ _ r h => by simp [stolelaw1_UtfSpoilt.l0] at h⟩
 | k + 1 => by
  obtain ⟨ih0, ih1⟩ := stolelaw1_UtfSpoilt.mono_l k
  refine ⟨?_, ?_⟩
  ·intro y0 y1 y2 y3
   unfold stolelaw1_UtfSpoilt.j1
   repeat' first
   | (with_reducible exact ih0 _ _ _ _)
   | (with_reducible exact ih1 _ _ _ _ _)
   | (with_reducible exact LeO.refl _)
   | (with_reducible exact LeO.none _)
   | (with_reducible refine LeO.ite ?_ ?_)
   | (with_reducible refine LeO.bind ?_ (fun _ => ?_))
   | exact ih0 _ _ _ _
   | exact ih1 _ _ _ _ _
   | exact LeO.none _
   | refine LeO.ite ?_ ?_
   | refine LeO.bind ?_ (fun _ => ?_)
  ·intro y0 y1 y2 y3 y4
   unfold stolelaw1_UtfSpoilt.l0
   repeat' first
   | (with_reducible exact ih0 _ _ _ _)
   | (with_reducible exact ih1 _ _ _ _ _)
   | (with_reducible exact LeO.refl _)
   | (with_reducible exact LeO.none _)
   | (with_reducible refine LeO.ite ?_ ?_)
   | (with_reducible refine LeO.bind ?_ (fun _ => ?_))
   | exact ih0 _ _ _ _
   | exact ih1 _ _ _ _ _
   | exact LeO.none _
   | refine LeO.ite ?_ ?_
   | refine LeO.bind ?_ (fun _ => ?_)
theorem stolelaw1_UtfSpoilt.mono : ∀ a0 a1 k, LeO (stolelaw1_UtfSpoilt.f k a0 a1) (stolelaw1_UtfSpoilt.f (k + 1) a0 a1) := by
 intro a0 a1 k
 obtain ⟨ih0, ih1⟩ := stolelaw1_UtfSpoilt.mono_l k
 unfold stolelaw1_UtfSpoilt.f
 repeat' first
   | (with_reducible exact ih0 _ _ _ _)
   | (with_reducible exact ih1 _ _ _ _ _)
   | (with_reducible exact LeO.refl _)
   | (with_reducible exact LeO.none _)
   | (with_reducible refine LeO.ite ?_ ?_)
   | (with_reducible refine LeO.bind ?_ (fun _ => ?_))
   | exact ih0 _ _ _ _
   | exact ih1 _ _ _ _ _
   | exact LeO.none _
   | refine LeO.ite ?_ ?_
   | refine LeO.bind ?_ (fun _ => ?_)
set_option maxHeartbeats 8000000 in
set_option maxRecDepth 100000 in
theorem stolelaw1_UtfSpoilt.calls (k : Nat) (A0 : Option Addr) (c0 : Nat) (l0 : List Int) (a1 : ByteArray) (r : Bool) (w : World) (hT : Tabs w) (hr0 : Kd.C (Kd.int .i64) w A0 l0.length l0) (hc0 : l0.length ≤ c0) (h : stolelaw1_UtfSpoilt.f k l0 a1 = some r) :
  Calls Tryd.prog 7 #[.slice A0 l0.length c0, .string a1] w fun e w' => e = .returned (.bool r) ∧ Below w.heap.size w w' := by
 have HT := Aside0.mk hT
 clear hT
 have HR0 := Aside0.mk hr0
 have HC0 := Aside0.mk hc0
 clear hr0 hc0
 have HB := Aside0.mk (Below.refl w.heap.size w)
 have H : ((stolelaw1_awake.f).bind fun t170 => (if t170 = true then (stolelaw1_UtfSpoilt.l0 k l0 a1 (⟨#[]⟩ : ByteArray) (⟨#[]⟩ : ByteArray) 0) else (some false))) = some r := h
 clear h
 replace H := Option.bind_eq_some_iff.mp H
 obtain ⟨t170, A30, H⟩ := H
 replace H : (if t170 = true then (stolelaw1_UtfSpoilt.l0 k l0 a1 (⟨#[]⟩ : ByteArray) (⟨#[]⟩ : ByteArray) 0) else (some false)) = some r := H
 have A3 := Aside0.mk A30
 clear A30
 by_cases c4 : t170 = true
 ·subst c4
  have H1 : (stolelaw1_UtfSpoilt.l0 k l0 a1 (⟨#[]⟩ : ByteArray) (⟨#[]⟩ : ByteArray) 0) = some r := by rw [if_pos rfl] at H; exact H
  clear H
  have H := H1
  clear H1
  have HC5 := Aside0.mk H
  clear H
  go_enter Tryd.func7, Tryd.ntmps7
  go_upto_block 0 with (first | ((with_reducible refine gate_callee (f := 14) rfl ?_); refine goesL_ (some 10) rfl rfl Tryd.func14 (by kernel_rfl) rfl #[] rfl (by (try simp only [List.map_toArray, List.map_cons, List.map_nil]); first | done | rfl | (simp only [List.length_drop, List.length_take]; rfl)) ?_; (with_reducible refine (stolelaw1_awake.calls  true _ (tabs_below HT.out (by repeat (first | (with_reducible first | exact HB.out | apply below_alloc | apply pw_below_drewN | apply below_drew1) | exact HB.out))) A3.out).mono ?_); rintro e w6 ⟨rfl, hb⟩; refine ⟨_, rfl, ?_⟩; have n0_ := Aside0.mk (below_step (by repeat (first | (with_reducible first | exact HB.out | apply below_alloc | apply pw_below_drewN | apply below_drew1) | exact HB.out)) hb); clear HB; have HB := n0_; clear n0_; (try clear hb); (try clear hb2); (try clear hk); (try clear hi)))
  (try simp only [Act.put, List.setIfInBounds_toArray, List.set_cons_zero, List.set_cons_succ])
  go_cut [5, 6] (fun v5 v6 wc => ∃ (kq : Nat) (x5_4 : ByteArray) (x6_4 : ByteArray), v5 = .string x5_4 ∧ v6 = .string x6_4 ∧ Aside0 (stolelaw1_UtfSpoilt.j1 kq l0 a1 x5_4 x6_4 = some r) ∧ Aside0 (kq ≤ k) ∧ Aside0 (Below w.heap.size w wc))
  case first =>
   have H := HC5.out
   clear HC5
   have H' := Aside0.mk H
   clear H
   go_wp2
   go_loopg [5, 6, 7] k (fun kq v5 v6 v7 w' => ∃ (x5_1 : ByteArray) (x6_1 : ByteArray) (x7_1 : Int), v5 = .string x5_1 ∧ v6 = .string x6_1 ∧ v7 = .int .i64 x7_1 ∧ Aside0 (stolelaw1_UtfSpoilt.l0 kq l0 a1 x5_1 x6_1 x7_1 = some r) ∧ Aside0 (kq ≤ k) ∧ Aside0 (Below w.heap.size w w'))
   case atStart => exact ⟨((⟨#[]⟩ : ByteArray)), ((⟨#[]⟩ : ByteArray)), (0), (by first | rfl | (simp; done) | (simp [*]; done)), (by first | rfl | (simp; done) | (simp [*]; done)), (by first | rfl | (simp; done) | (simp [*]; done)), H', ⟨Nat.le_refl _⟩, ⟨by repeat (first | (with_reducible first | exact HB.out | apply below_alloc | apply pw_below_drewN | apply below_drew1) | exact HB.out)⟩⟩
   case round =>
    clear H'
    try clear c1
    try clear p2
    try clear c4
    obtain ⟨x5_1, x6_1, x7_1, rfl, rfl, rfl, HA, HK1, HB⟩ := hrel
    cases gk with
    | zero => exact absurd HA.out (by simp [stolelaw1_UtfSpoilt.l0])
    | succ k1 =>
     have H := HA.out
     clear HA
     simp only [stolelaw1_UtfSpoilt.l0] at H
     by_cases c7 : x7_1 < (l0.length : Int)
     ·rw [if_pos c7] at H
      have c7b0 : decide (x7_1 < (l0.length : Int)) = true := decide_eq_true c7
      clear c7
      (first | rw [c7b0] | (simp only [i64_w, i32_w]; rw [c7b0]) | skip)
      by_cases c8 : x7_1 < 30
      ·rw [if_pos c8] at H
       have c8b0 : decide (x7_1 < 30) = true := decide_eq_true c8
       clear c8
       obtain ⟨y171, hy171⟩ : ∃ y_ : List Int, y_ = (([255, 192, 245, 128, 0] : List Int)) := ⟨_, rfl⟩
       replace H : (if 0 ≤ x7_1 then (if 0 ≤ (wrap64 (Int.tmod (IntKind.u64.wrap (rd l0 x7_1)) 5)) then (if (wrap64 (Int.tmod (IntKind.u64.wrap (rd l0 x7_1)) 5)) < (y171.length : Int) then (if x5_1.size + 1 ≤ 9223372036854775807 then ((some (([rd y171 (wrap64 (Int.tmod (IntKind.u64.wrap (rd l0 x7_1)) 5))] : List Int) : List Int)).bind fun y176 => (if x5_1.size + 1 + (strOfNums y176).size ≤ 9223372036854775807 then (if x6_1.size + 4 ≤ 9223372036854775807 then (stolelaw1_UtfSpoilt.l0 k1 l0 a1 ((x5_1 ++ (⟨#[120]⟩ : ByteArray)) ++ (strOfNums y176)) (x6_1 ++ (⟨#[120, 239, 191, 189]⟩ : ByteArray)) (wrap64 (x7_1 + 1))) else (none)) else (none))) else (none)) else (none)) else (none)) else (none)) = some r := by first | (rw [hy171]; with_reducible exact H) | (have H2_ := (Option.bind_some _ _).symm.trans H; rw [hy171]; with_reducible exact H2_) | (have H2_ := (Option.bind_some _ _).symm.trans H; with_reducible exact H2_) | with_reducible exact H | (rw [hy171]; exact H) | exact H
       have Ny171 := Aside0.mk hy171
       clear hy171
       by_cases c9 : 0 ≤ x7_1
       ·rw [if_pos c9] at H
        have c9b0 : decide (0 ≤ x7_1) = true := decide_eq_true c9
        clear c9
        obtain ⟨ji10, hji10⟩ : ∃ j_ : Int, (wrap64 (Int.tmod (IntKind.u64.wrap (rd l0 x7_1)) 5)) = j_ := ⟨_, rfl⟩
        replace H : (if 0 ≤ (ji10) then (if (ji10) < (y171.length : Int) then (if x5_1.size + 1 ≤ 9223372036854775807 then ((some (([rd y171 (ji10)] : List Int) : List Int)).bind fun y176 => (if x5_1.size + 1 + (strOfNums y176).size ≤ 9223372036854775807 then (if x6_1.size + 4 ≤ 9223372036854775807 then (stolelaw1_UtfSpoilt.l0 k1 l0 a1 ((x5_1 ++ (⟨#[120]⟩ : ByteArray)) ++ (strOfNums y176)) (x6_1 ++ (⟨#[120, 239, 191, 189]⟩ : ByteArray)) (wrap64 (x7_1 + 1))) else (none)) else (none))) else (none)) else (none)) else (none)) = some r := by first | (rw [hji10] at H; exact H) | (simp only [hji10] at H ⊢; exact H)
        have hji10w : (IntKind.i64.wrap (Int.tmod (IntKind.u64.wrap (rd l0 x7_1)) 5)) = ji10 := (i64_w _).trans hji10
        by_cases c11 : 0 ≤ (ji10)
        ·rw [if_pos c11] at H
         have c11b0 : decide (0 ≤ (ji10)) = true := decide_eq_true c11
         clear c11
         by_cases c12 : (ji10) < (y171.length : Int)
         ·rw [if_pos c12] at H
          have c12b0 : decide ((ji10) < (y171.length : Int)) = true := decide_eq_true c12
          clear c12
          by_cases c13 : x5_1.size + 1 ≤ 9223372036854775807
          ·rw [if_pos c13] at H
           have c13b0 := eq_true c13
           have c13b1 : decide (x5_1.size + 1 ≤ 9223372036854775807) = true := decide_eq_true c13
           try have c13b2 : (9223372036854775807 < x5_1.size + 1) = False := eq_false (Nat.not_lt.2 c13)
           obtain ⟨y176, hy176⟩ : ∃ y_ : List Int, y_ = (([rd y171 (ji10)] : List Int)) := ⟨_, rfl⟩
           replace H : (if x5_1.size + 1 + (strOfNums y176).size ≤ 9223372036854775807 then (if x6_1.size + 4 ≤ 9223372036854775807 then (stolelaw1_UtfSpoilt.l0 k1 l0 a1 ((x5_1 ++ (⟨#[120]⟩ : ByteArray)) ++ (strOfNums y176)) (x6_1 ++ (⟨#[120, 239, 191, 189]⟩ : ByteArray)) (wrap64 (x7_1 + 1))) else (none)) else (none)) = some r := by first | (rw [hy176]; with_reducible exact H) | (have H2_ := (Option.bind_some _ _).symm.trans H; rw [hy176]; with_reducible exact H2_) | (have H2_ := (Option.bind_some _ _).symm.trans H; with_reducible exact H2_) | with_reducible exact H | (rw [hy176]; exact H) | exact H
           have Ny176 := Aside0.mk hy176
           clear hy176
           by_cases c14 : x5_1.size + 1 + (strOfNums y176).size ≤ 9223372036854775807
           ·rw [if_pos c14] at H
            have c14b0 := eq_true c14
            have c14b1 : decide (x5_1.size + 1 + (strOfNums y176).size ≤ 9223372036854775807) = true := decide_eq_true c14
            try have c14b2 : (9223372036854775807 < x5_1.size + 1 + (strOfNums y176).size) = False := eq_false (Nat.not_lt.2 c14)
            by_cases c15 : x6_1.size + 4 ≤ 9223372036854775807
            ·rw [if_pos c15] at H
             have c15b0 := eq_true c15
             have c15b1 : decide (x6_1.size + 4 ≤ 9223372036854775807) = true := decide_eq_true c15
             try have c15b2 : (9223372036854775807 < x6_1.size + 4) = False := eq_false (Nat.not_lt.2 c15)
             have H' := Aside0.mk H
             clear H
             go_wp2_with (first | ((with_reducible refine gate_dst (N := 22) rfl ?_); (try (refine gate_guard (by rfl) ?_; dsimp only)); refine Kd.R_lit (Kd.int .u8) _ 5 ?hg (N := 22) ?hd (xs := ([255, 192, 245, 128, 0] : List Int)) (inner := [.int .u8 255, .int .u8 192, .int .u8 245, .int .u8 128, .int .u8 0]) (ok := fun _ => True) (okp := fun _ => True) ?hr ?hp (fun _ hk => hk) trivial (Below.refl _ _) (Nat.le_refl _) (by simp) ?_; (case hd => rfl); (case hg => rfl); (case hr => first | (go_simp; done) | (go_simp; rfl)); (case hp => exact (Reps.one (show Kd.M (Kd.int .u8) _ _ _ 255 [.int .u8 255] from rfl) (Reps.one (show Kd.M (Kd.int .u8) _ _ _ 192 [.int .u8 192] from rfl) (Reps.one (show Kd.M (Kd.int .u8) _ _ _ 245 [.int .u8 245] from rfl) (Reps.one (show Kd.M (Kd.int .u8) _ _ _ 128 [.int .u8 128] from rfl) (Reps.one (show Kd.M (Kd.int .u8) _ _ _ 0 [.int .u8 0] from rfl) (Reps.none _ _))))))); intro v172 w16 ho17 hb hg_ hnew_; clear hg_ hnew_; (first | rw [← Ny171.out] at ho17 | (simp only [Int.reduceToNat] at ho17; rw [← Ny171.out] at ho17)); have n0_ := Aside0.mk (Kd.R_lower ho17 (below_size (by repeat (first | (with_reducible first | exact HB.out | apply below_alloc | apply pw_below_drewN | apply below_drew1) | exact HB.out)))); have n1_ := Aside0.mk (below_step (by repeat (first | (with_reducible first | exact HB.out | apply below_alloc | apply pw_below_drewN | apply below_drew1) | exact HB.out)) hb); clear HB; have HO173 := n0_; have HB := n1_; clear n0_ n1_; clear hb ho17; have p174 : 0 ≤ (x7_1 : Int) := of_decide_eq_true (by first | (with_reducible assumption) | assumption); have q174 : x7_1 < (l0.length : Int) := of_decide_eq_true (by first | (with_reducible assumption) | assumption); obtain ⟨ad174, e174, hx174_0⟩ := Kd.at_int HR0.out x7_1 p174 q174; cases e174; replace hx174_0 := (HB.out.cell (World.block_lt_of_cell? w _ hx174_0)).trans hx174_0; replace p174 := eq_true p174; replace q174 := eq_true q174; obtain ⟨Ao18, co18, eo18⟩ := Kd.R_slice HO173.out; subst eo18; have p175 : 0 ≤ ((ji10) : Int) := of_decide_eq_true (by first | (with_reducible assumption) | assumption); have q175 : (ji10) < (y171.length : Int) := of_decide_eq_true (by first | (with_reducible assumption) | assumption); obtain ⟨ad175, e175, hx175_0⟩ := Kd.at_int (Kd.R_reads' HO173.out).2.2 (ji10) p175 q175; cases e175; replace p175 := eq_true p175; replace q175 := eq_true q175) | ((with_reducible refine gate_dst (N := 35) rfl ?_); (try (refine gate_guard (by rfl) ?_; dsimp only)); refine Kd.R_lit (Kd.int .u8) _ 5 ?hg (N := 35) ?hd (xs := ([rd y171 (ji10)] : List Int)) (inner := [.int .u8 (rd y171 (ji10))]) (ok := fun _ => True) (okp := fun _ => True) ?hr ?hp (fun _ hk => hk) trivial (Below.refl _ _) (Nat.le_refl _) (by simp) ?_; (case hd => rfl); (case hg => rfl); (case hr => first | (go_simp; done) | (go_simp; rfl)); (case hp => exact (Reps.one (show Kd.M (Kd.int .u8) _ _ _ (rd y171 (ji10)) [.int .u8 (rd y171 (ji10))] from rfl) (Reps.none _ _))); intro v177 w19 ho20 hb hg_ hnew_; clear hg_ hnew_; (first | rw [← Ny176.out] at ho20 | (simp only [Int.reduceToNat] at ho20; rw [← Ny176.out] at ho20)); have n0_ := Aside0.mk (Kd.R_elder' (by (with_reducible repeat (first | apply Kd.R_alloc | apply Kd.R_drewN | apply Kd.R_drew)); exact HO173.out) (Kd.R_base ho20) hb); have n1_ := Aside0.mk (Kd.R_lower (Kd.R_new' ho20 (Kd.R_lt (by (with_reducible repeat (first | apply Kd.R_alloc | apply Kd.R_drewN | apply Kd.R_drew)); exact HO173.out))) (below_size (by repeat (first | (with_reducible first | exact HB.out | apply below_alloc | apply pw_below_drewN | apply below_drew1) | exact HB.out)))); have n2_ := Aside0.mk (below_step (by repeat (first | (with_reducible first | exact HB.out | apply below_alloc | apply pw_below_drewN | apply below_drew1) | exact HB.out)) hb); clear HO173; clear HB; have HO173 := n0_; have HO178 := n1_; have HB := n2_; clear n0_ n1_ n2_; clear hb ho20; have hcv21 := own_string (P := Tryd.prog) Tryd.underlying26 Tryd.underlying5 Tryd.underlying9 (Kd.own_of_R HO178.out)))
             go_roundg k1
             case measure => have := HK1.out; omega
             case rel => exact ⟨((x5_1 ++ (⟨#[120]⟩ : ByteArray)) ++ (strOfNums y176)), (x6_1 ++ (⟨#[120, 239, 191, 189]⟩ : ByteArray)), (wrap64 (x7_1 + 1)), (by first | rfl | (simp; done) | (simp [*]; done)), (by first | rfl | (simp; done) | (simp [*]; done)), (by first | rfl | (simp; done) | (simp [*]; done)), H', ⟨by have := HK1.out; omega⟩, ⟨by repeat (first | (with_reducible first | exact HB.out | apply below_alloc | apply pw_below_drewN | apply below_drew1) | exact HB.out)⟩⟩
            ·rw [if_neg c15] at H
             exact absurd H (by simp)
           ·rw [if_neg c14] at H
            exact absurd H (by simp)
          ·rw [if_neg c13] at H
           exact absurd H (by simp)
         ·rw [if_neg c12] at H
          exact absurd H (by simp)
        ·rw [if_neg c11] at H
         exact absurd H (by simp)
       ·rw [if_neg c9] at H
        exact absurd H (by simp)
      ·rw [if_neg c8] at H
       have c8b0 : decide (x7_1 < 30) = false := decide_eq_false c8
       clear c8
       have H' := Aside0.mk H
       clear H
       go_wp2
       go_meet
       case rel => exact ⟨_, (x5_1), (x6_1), (by first | rfl | (simp; done) | (simp [*]; done)), (by first | rfl | (simp; done) | (simp [*]; done)), H', ⟨by have := HK1.out; first | omega | exact Nat.le_refl _⟩, ⟨by repeat (first | (with_reducible first | exact HB.out | apply below_alloc | apply pw_below_drewN | apply below_drew1) | exact HB.out)⟩⟩
     ·rw [if_neg c7] at H
      have c7b0 : decide (x7_1 < (l0.length : Int)) = false := decide_eq_false c7
      clear c7
      (first | rw [c7b0] | (simp only [i64_w, i32_w]; rw [c7b0]) | skip)
      have H' := Aside0.mk H
      clear H
      go_wp2
      go_meet
      case rel => exact ⟨_, (x5_1), (x6_1), (by first | rfl | (simp; done) | (simp [*]; done)), (by first | rfl | (simp; done) | (simp [*]; done)), H', ⟨by have := HK1.out; first | omega | exact Nat.le_refl _⟩, ⟨by repeat (first | (with_reducible first | exact HB.out | apply below_alloc | apply pw_below_drewN | apply below_drew1) | exact HB.out)⟩⟩
  case rest =>
   clear HC5
   try clear c1
   try clear p1
   try clear q1
   try clear hx1
   try clear p2
   try clear hcv2
   try clear c4
   try clear p6
   try clear c7
   try clear c7b0
   try clear c8
   try clear c8b0
   try clear c9
   try clear c9b0
   try clear c11
   try clear c11b0
   try clear c12
   try clear c12b0
   try clear c13
   try clear c13b0
   try clear c13b1
   try clear c13b2
   try clear c14
   try clear c14b0
   try clear c14b1
   try clear c14b2
   try clear c15
   try clear c15b0
   try clear c15b1
   try clear c15b2
   try clear p17
   try clear q17
   try clear hx17
   try clear hcv21
   try clear hx174_0
   try clear hx175_0
   try clear p174
   try clear p175
   try clear p2
   try clear q174
   try clear q175
   obtain ⟨kq, x5_4, x6_4, rfl, rfl, HA, HJ4, HB⟩ := hcut
   cases kq with
   | zero => exact absurd HA.out (by simp [stolelaw1_UtfSpoilt.j1])
   | succ kj4 =>
    have H := HA.out
    clear HA
    simp only [stolelaw1_UtfSpoilt.j1] at H
    replace H := Option.bind_eq_some_iff.mp H
    obtain ⟨t179, A220, H⟩ := H
    replace H : (if x5_4.size + 1 ≤ 9223372036854775807 then (if x5_4.size + 1 + t179.size ≤ 9223372036854775807 then ((utf_Norm.f ((x5_4 ++ (⟨#[121]⟩ : ByteArray)) ++ t179)).bind fun t180 => (if x6_4.size + 1 ≤ 9223372036854775807 then (if x6_4.size + 1 + t179.size ≤ 9223372036854775807 then (if t180.toList = ((x6_4 ++ (⟨#[121]⟩ : ByteArray)) ++ t179).toList then ((utf_May.f x5_4).bind fun t181 => (if (t181 == ((l0.length : Int) == 0)) = true then ((stolelaw0_Num.f 0).bind fun t182 => (some (t182 == 0))) else (some false))) else (some false)) else (none)) else (none))) else (none)) else (none)) = some r := H
    have A22 := Aside0.mk A220
    clear A220
    by_cases c23 : x5_4.size + 1 ≤ 9223372036854775807
    ·rw [if_pos c23] at H
     have c23b0 := eq_true c23
     have c23b1 : decide (x5_4.size + 1 ≤ 9223372036854775807) = true := decide_eq_true c23
     try have c23b2 : (9223372036854775807 < x5_4.size + 1) = False := eq_false (Nat.not_lt.2 c23)
     by_cases c24 : x5_4.size + 1 + t179.size ≤ 9223372036854775807
     ·rw [if_pos c24] at H
      have c24b0 := eq_true c24
      have c24b1 : decide (x5_4.size + 1 + t179.size ≤ 9223372036854775807) = true := decide_eq_true c24
      try have c24b2 : (9223372036854775807 < x5_4.size + 1 + t179.size) = False := eq_false (Nat.not_lt.2 c24)
      replace H := Option.bind_eq_some_iff.mp H
      obtain ⟨t180, A250, H⟩ := H
      replace H : (if x6_4.size + 1 ≤ 9223372036854775807 then (if x6_4.size + 1 + t179.size ≤ 9223372036854775807 then (if t180.toList = ((x6_4 ++ (⟨#[121]⟩ : ByteArray)) ++ t179).toList then ((utf_May.f x5_4).bind fun t181 => (if (t181 == ((l0.length : Int) == 0)) = true then ((stolelaw0_Num.f 0).bind fun t182 => (some (t182 == 0))) else (some false))) else (some false)) else (none)) else (none)) = some r := H
      have A25 := Aside0.mk A250
      clear A250
      by_cases c26 : x6_4.size + 1 ≤ 9223372036854775807
      ·rw [if_pos c26] at H
       have c26b0 := eq_true c26
       have c26b1 : decide (x6_4.size + 1 ≤ 9223372036854775807) = true := decide_eq_true c26
       try have c26b2 : (9223372036854775807 < x6_4.size + 1) = False := eq_false (Nat.not_lt.2 c26)
       by_cases c27 : x6_4.size + 1 + t179.size ≤ 9223372036854775807
       ·rw [if_pos c27] at H
        have c27b0 := eq_true c27
        have c27b1 : decide (x6_4.size + 1 + t179.size ≤ 9223372036854775807) = true := decide_eq_true c27
        try have c27b2 : (9223372036854775807 < x6_4.size + 1 + t179.size) = False := eq_false (Nat.not_lt.2 c27)
        by_cases c28 : t180.toList = ((x6_4 ++ (⟨#[121]⟩ : ByteArray)) ++ t179).toList
        ·rw [if_pos c28] at H
         have c28b0 : (t180.toList == ((x6_4 ++ (⟨#[121]⟩ : ByteArray)) ++ t179).toList) = true := beq_iff_eq.mpr c28
         have c28b1 : (t180.toList != ((x6_4 ++ (⟨#[121]⟩ : ByteArray)) ++ t179).toList) = false := bne_eq_false_iff_eq.mpr c28
         clear c28
         replace H := Option.bind_eq_some_iff.mp H
         obtain ⟨t181, A290, H⟩ := H
         replace H : (if (t181 == ((l0.length : Int) == 0)) = true then ((stolelaw0_Num.f 0).bind fun t182 => (some (t182 == 0))) else (some false)) = some r := H
         have A29 := Aside0.mk A290
         clear A290
         by_cases c30 : (t181 == ((l0.length : Int) == 0)) = true
         ·rw [if_pos c30] at H
          have c30b0 : (t181 == ((l0.length : Int) == 0)) = true := c30
          (try (have c30b1 : decide (t181 = ((l0.length : Int) == 0)) = true := by simpa using c30))
          (try (have c30b2 : (t181 == ((l0.length : Int) == 0)) = true := by simpa using c30))
          clear c30
          replace H := Option.bind_eq_some_iff.mp H
          obtain ⟨t182, A310, H⟩ := H
          replace H : (some (t182 == 0)) = some r := H
          have A31 := Aside0.mk A310
          clear A310
          obtain rfl := Option.some.inj H
          go_wp2_with (first | ((with_reducible refine gate_callee (f := 10) rfl ?_); refine goesL_ (some 41) rfl rfl Tryd.func10 (by kernel_rfl) rfl #[.string a1] rfl (by (try simp only [List.map_toArray, List.map_cons, List.map_nil]); first | done | rfl | (simp only [List.length_drop, List.length_take]; rfl)) ?_; (with_reducible refine (utf_Norm.calls a1 t179 _ (tabs_below HT.out (by repeat (first | (with_reducible first | exact HB.out | apply below_alloc | apply pw_below_drewN | apply below_drew1) | exact HB.out))) A22.out).mono ?_); rintro e w32 ⟨rfl, hb⟩; refine ⟨_, rfl, ?_⟩; have n0_ := Aside0.mk (below_step (by repeat (first | (with_reducible first | exact HB.out | apply below_alloc | apply pw_below_drewN | apply below_drew1) | exact HB.out)) hb); clear HB; have HB := n0_; clear n0_; (try clear hb); (try clear hb2); (try clear hk); (try clear hi)) | ((with_reducible refine gate_callee (f := 10) rfl ?_); refine goesL_ (some 46) rfl rfl Tryd.func10 (by kernel_rfl) rfl #[.string ((x5_4 ++ (⟨#[121]⟩ : ByteArray)) ++ t179)] rfl (by (try simp only [List.map_toArray, List.map_cons, List.map_nil]); first | done | rfl | (simp only [List.length_drop, List.length_take]; rfl)) ?_; (with_reducible refine (utf_Norm.calls ((x5_4 ++ (⟨#[121]⟩ : ByteArray)) ++ t179) t180 _ (tabs_below HT.out (by repeat (first | (with_reducible first | exact HB.out | apply below_alloc | apply pw_below_drewN | apply below_drew1) | exact HB.out))) A25.out).mono ?_); rintro e w33 ⟨rfl, hb⟩; refine ⟨_, rfl, ?_⟩; have n0_ := Aside0.mk (below_step (by repeat (first | (with_reducible first | exact HB.out | apply below_alloc | apply pw_below_drewN | apply below_drew1) | exact HB.out)) hb); clear HB; have HB := n0_; clear n0_; (try clear hb); (try clear hb2); (try clear hk); (try clear hi)) | (go_at_call 8; (with_reducible refine (utf_May.calls x5_4 t181 _ (tabs_below HT.out (by repeat (first | (with_reducible first | exact HB.out | apply below_alloc | apply pw_below_drewN | apply below_drew1) | exact HB.out))) A29.out).mono ?_); rintro e w34 ⟨rfl, hb⟩; have n0_ := Aside0.mk (below_step (by repeat (first | (with_reducible first | exact HB.out | apply below_alloc | apply pw_below_drewN | apply below_drew1) | exact HB.out)) hb); clear HB; have HB := n0_; clear n0_; (try clear hb); (try clear hb2); (try clear hk); (try clear hi)) | (go_at_call 15; (with_reducible refine (stolelaw0_Num.calls 0 t182 _ A31.out).mono ?_); rintro e w' ⟨rfl, ⟨nd, rfl⟩⟩))
          go_ret
          exact ⟨by first | rfl | (simp [errW_none, errW_some] <;> rfl) | (simp [*, errW_none, errW_some] <;> rfl), by repeat (first | (with_reducible first | exact HB.out | apply below_alloc | apply pw_below_drewN | apply below_drew1) | exact HB.out)⟩
         ·rw [if_neg c30] at H
          have c30b0 : (t181 == ((l0.length : Int) == 0)) = false := by simpa using c30
          (try (have c30b1 : decide (t181 = ((l0.length : Int) == 0)) = false := by simpa using c30))
          (try (have c30b2 : (t181 == ((l0.length : Int) == 0)) = false := by simpa using c30))
          (try (have c30b3 : ¬ (t181 = ((l0.length : Int) == 0)) := by simpa using c30))
          clear c30
          obtain rfl := Option.some.inj H
          go_wp2_with (first | ((with_reducible refine gate_callee (f := 10) rfl ?_); refine goesL_ (some 41) rfl rfl Tryd.func10 (by kernel_rfl) rfl #[.string a1] rfl (by (try simp only [List.map_toArray, List.map_cons, List.map_nil]); first | done | rfl | (simp only [List.length_drop, List.length_take]; rfl)) ?_; (with_reducible refine (utf_Norm.calls a1 t179 _ (tabs_below HT.out (by repeat (first | (with_reducible first | exact HB.out | apply below_alloc | apply pw_below_drewN | apply below_drew1) | exact HB.out))) A22.out).mono ?_); rintro e w35 ⟨rfl, hb⟩; refine ⟨_, rfl, ?_⟩; have n0_ := Aside0.mk (below_step (by repeat (first | (with_reducible first | exact HB.out | apply below_alloc | apply pw_below_drewN | apply below_drew1) | exact HB.out)) hb); clear HB; have HB := n0_; clear n0_; (try clear hb); (try clear hb2); (try clear hk); (try clear hi)) | ((with_reducible refine gate_callee (f := 10) rfl ?_); refine goesL_ (some 46) rfl rfl Tryd.func10 (by kernel_rfl) rfl #[.string ((x5_4 ++ (⟨#[121]⟩ : ByteArray)) ++ t179)] rfl (by (try simp only [List.map_toArray, List.map_cons, List.map_nil]); first | done | rfl | (simp only [List.length_drop, List.length_take]; rfl)) ?_; (with_reducible refine (utf_Norm.calls ((x5_4 ++ (⟨#[121]⟩ : ByteArray)) ++ t179) t180 _ (tabs_below HT.out (by repeat (first | (with_reducible first | exact HB.out | apply below_alloc | apply pw_below_drewN | apply below_drew1) | exact HB.out))) A25.out).mono ?_); rintro e w36 ⟨rfl, hb⟩; refine ⟨_, rfl, ?_⟩; have n0_ := Aside0.mk (below_step (by repeat (first | (with_reducible first | exact HB.out | apply below_alloc | apply pw_below_drewN | apply below_drew1) | exact HB.out)) hb); clear HB; have HB := n0_; clear n0_; (try clear hb); (try clear hb2); (try clear hk); (try clear hi)) | (go_at_call 8; (with_reducible refine (utf_May.calls x5_4 t181 _ (tabs_below HT.out (by repeat (first | (with_reducible first | exact HB.out | apply below_alloc | apply pw_below_drewN | apply below_drew1) | exact HB.out))) A29.out).mono ?_); rintro e w37 ⟨rfl, hb⟩; have n0_ := Aside0.mk (below_step (by repeat (first | (with_reducible first | exact HB.out | apply below_alloc | apply pw_below_drewN | apply below_drew1) | exact HB.out)) hb); clear HB; have HB := n0_; clear n0_; (try clear hb); (try clear hb2); (try clear hk); (try clear hi)))
          go_ret
          exact ⟨by first | rfl | (simp [errW_none, errW_some] <;> rfl) | (simp [*, errW_none, errW_some] <;> rfl), by repeat (first | (with_reducible first | exact HB.out | apply below_alloc | apply pw_below_drewN | apply below_drew1) | exact HB.out)⟩
        ·rw [if_neg c28] at H
         have c28b0 : (t180.toList == ((x6_4 ++ (⟨#[121]⟩ : ByteArray)) ++ t179).toList) = false := beq_eq_false_iff_ne.mpr c28
         have c28b1 : (t180.toList != ((x6_4 ++ (⟨#[121]⟩ : ByteArray)) ++ t179).toList) = true := bne_iff_ne.mpr c28
         obtain rfl := Option.some.inj H
         go_wp2_with (first | ((with_reducible refine gate_callee (f := 10) rfl ?_); refine goesL_ (some 41) rfl rfl Tryd.func10 (by kernel_rfl) rfl #[.string a1] rfl (by (try simp only [List.map_toArray, List.map_cons, List.map_nil]); first | done | rfl | (simp only [List.length_drop, List.length_take]; rfl)) ?_; (with_reducible refine (utf_Norm.calls a1 t179 _ (tabs_below HT.out (by repeat (first | (with_reducible first | exact HB.out | apply below_alloc | apply pw_below_drewN | apply below_drew1) | exact HB.out))) A22.out).mono ?_); rintro e w38 ⟨rfl, hb⟩; refine ⟨_, rfl, ?_⟩; have n0_ := Aside0.mk (below_step (by repeat (first | (with_reducible first | exact HB.out | apply below_alloc | apply pw_below_drewN | apply below_drew1) | exact HB.out)) hb); clear HB; have HB := n0_; clear n0_; (try clear hb); (try clear hb2); (try clear hk); (try clear hi)) | ((with_reducible refine gate_callee (f := 10) rfl ?_); refine goesL_ (some 46) rfl rfl Tryd.func10 (by kernel_rfl) rfl #[.string ((x5_4 ++ (⟨#[121]⟩ : ByteArray)) ++ t179)] rfl (by (try simp only [List.map_toArray, List.map_cons, List.map_nil]); first | done | rfl | (simp only [List.length_drop, List.length_take]; rfl)) ?_; (with_reducible refine (utf_Norm.calls ((x5_4 ++ (⟨#[121]⟩ : ByteArray)) ++ t179) t180 _ (tabs_below HT.out (by repeat (first | (with_reducible first | exact HB.out | apply below_alloc | apply pw_below_drewN | apply below_drew1) | exact HB.out))) A25.out).mono ?_); rintro e w39 ⟨rfl, hb⟩; refine ⟨_, rfl, ?_⟩; have n0_ := Aside0.mk (below_step (by repeat (first | (with_reducible first | exact HB.out | apply below_alloc | apply pw_below_drewN | apply below_drew1) | exact HB.out)) hb); clear HB; have HB := n0_; clear n0_; (try clear hb); (try clear hb2); (try clear hk); (try clear hi)))
         go_ret
         exact ⟨by first | rfl | (simp [errW_none, errW_some] <;> rfl) | (simp [*, errW_none, errW_some] <;> rfl), by repeat (first | (with_reducible first | exact HB.out | apply below_alloc | apply pw_below_drewN | apply below_drew1) | exact HB.out)⟩
       ·rw [if_neg c27] at H
        exact absurd H (by simp)
      ·rw [if_neg c26] at H
       exact absurd H (by simp)
     ·rw [if_neg c24] at H
      exact absurd H (by simp)
    ·rw [if_neg c23] at H
     exact absurd H (by simp)
 ·replace c4 := Bool.eq_false_iff.mpr c4
  subst c4
  have H1 : (some false) = some r := by rw [if_neg (show ¬ (false = true) by decide)] at H; exact H
  clear H
  have H := H1
  clear H1
  obtain rfl := Option.some.inj H
  go_enter Tryd.func7, Tryd.ntmps7
  go_wp2_with (first | ((with_reducible refine gate_callee (f := 14) rfl ?_); refine goesL_ (some 10) rfl rfl Tryd.func14 (by kernel_rfl) rfl #[] rfl (by (try simp only [List.map_toArray, List.map_cons, List.map_nil]); first | done | rfl | (simp only [List.length_drop, List.length_take]; rfl)) ?_; (with_reducible refine (stolelaw1_awake.calls  false _ (tabs_below HT.out (by repeat (first | (with_reducible first | exact HB.out | apply below_alloc | apply pw_below_drewN | apply below_drew1) | exact HB.out))) A3.out).mono ?_); rintro e w40 ⟨rfl, hb⟩; refine ⟨_, rfl, ?_⟩; have n0_ := Aside0.mk (below_step (by repeat (first | (with_reducible first | exact HB.out | apply below_alloc | apply pw_below_drewN | apply below_drew1) | exact HB.out)) hb); clear HB; have HB := n0_; clear n0_; (try clear hb); (try clear hb2); (try clear hk); (try clear hi)))
  go_ret
  exact ⟨by first | rfl | (simp [errW_none, errW_some] <;> rfl) | (simp [*, errW_none, errW_some] <;> rfl), by repeat (first | (with_reducible first | exact HB.out | apply below_alloc | apply pw_below_drewN | apply below_drew1) | exact HB.out)⟩

/-- THE ONE PURE STATEMENT of stolelaw1_UtfSpoilt: yours. -/
def stolelaw1_UtfSpoilt.Pure : Prop := ∀ (l0 : List Int) (a1 : ByteArray), l0.length ≤ maxLen → l0.length * 8 ≤ 140737488351232 → (∀ x ∈ l0, (Lit.int .i64 x).wf = true) → a1.size ≤ 140737488351232 → ∃ k, stolelaw1_UtfSpoilt.f k l0 a1 = some true
theorem stolelaw1_UtfSpoilt.walk (P : stolelaw1_UtfSpoilt.Pure) (a0 : Option Addr) (len0 cap0 : Nat) (z0 : List Int) (a1 : ByteArray) (w : World) (hT : Tabs w) (w0 : (a0 = none ∧ len0 = 0 ∧ cap0 = 0 ∧ z0 = []) ∨ ∃ x, a0 = some x ∧ len0 ≤ cap0 ∧ cap0 ≤ maxLen ∧ z0.length = cap0 ∧ (∀ i, i < z0.length → w.cell? (x.add i) = some (.int .i64 (z0.getD i 0))) ∧ ∀ n ∈ z0, (Lit.int .i64 n).wf = true) (y0 : len0 * 8 ≤ 140737488351232) (w1 : a1.size ≤ 140737488351232) :
  Calls Tryd.prog 7 #[.slice a0 len0 cap0, .string a1] w fun e w' => e = .returned (.bool true) ∧ Below w.heap.size w w' := by
 obtain ⟨l0, rfl, hr0, hm0, hw0, hc0⟩ := ReadsInt.ofRowC w0
 obtain ⟨k, h⟩ := P l0 a1 hm0 y0 hw0 w1
 refine (stolelaw1_UtfSpoilt.calls k _ _ l0 a1 true w hT (Kd.C_of_reads (d := (0 : Int)) (h1 := fun _ => rfl) hr0) hc0 h).mono ?_
 rintro e w' ⟨rfl, hd⟩
 exact ⟨rfl, hd⟩

end Go.Proofs.YtnhhbfanpnpgdaaDoor.XU
