/- Laid by xprint.py, a program of this session over the kit's print: for each Go function one Lean function of the same answers, and the walk that shows it. Laid by xprint.py, a program of this session over the kit's print: for each Go function one Lean function of the same answers, and the walk that shows it. Laid by xprint.py, a program of this session over the kit's print: for each Go function one Lean function of the same answers, and the walk that shows it. All of the first print, and what the print did not lay of the types. Plain lemmas on the printed functions' words (rounds, bytes): no program. tok's small functions: walked. -/
import Derived.Test.YtfmcdlbbbmeolaaGreatDoorP0
import Derived.Test.YtfmcdlbbbmeolaaGreatDoorP1
import Derived.Test.YtfmcdlbbbmeolaaGreatDoorV1
import Derived.Lib.Bytealg
import Derived.Laws.BitsLemmas
section
namespace Go.Proofs.YtfmcdlbbbmeolaaGreatDoor.XK
open Go.RowKit Go.Proofs.YtfmcdlbbbmeolaaGreatDoorW.PrintWords Go.Proofs.YtfmcdlbbbmeolaaGreatDoorW.PrintLast Go.Proofs.YtfmcdlbbbmeolaaGreatDoorW.PrintMore
attribute [local go_sem] max2_int min2_int max_two min_two max_three min_three max_four min_four   -- for this text's walks alone
set_option linter.unusedVariables false
set_option linter.unusedSimpArgs false
/-! ### stolelaw0_SpoilAttrs: function 56 -/
-- NOT PRINTED: function 22 (stolelaw0_SpoilTokens)
-- NOT PRINTED: function 26 (stolelaw5_at)
-- NOT PRINTED: function 23 (stolelaw5_awake)
-- NOT PRINTED: function 3 (stolelaw5_Tokens)
/-! ### stoleref0_Decimal: function 24 -/
mutual
def stoleref0_Decimal.j0 : Nat → Int → Int → Option (ByteArray)
 | 0, _, _ => none
 | k + 1, x0, x3 => stoleref0_Decimal.l0 k x0 x3 ([] : List Int)
def stoleref0_Decimal.l0 : Nat → Int → Int → List Int → Option (ByteArray)
 | 0, _, _, _ => none
 | k + 1, x0, x3, x4 => if x3 > 0 then ((some (([(IntKind.u64.wrap (48 + (Int.tmod x3 10))) % 256] : List Int) : List Int)).bind fun y116 => (if y116.length + x4.length < 140737488355328 then (stoleref0_Decimal.l0 k x0 (IntKind.u64.wrap (Int.tdiv x3 10)) (y116 ++ x4)) else (none))) else (if (x4.length : Int) = 0 then ((some (([(IntKind.u64.wrap (48 + (Int.tmod x3 10))) % 256] : List Int) : List Int)).bind fun y122 => (if y122.length + x4.length < 140737488355328 then (stoleref0_Decimal.l0 k x0 (IntKind.u64.wrap (Int.tdiv x3 10)) (y122 ++ x4)) else (none))) else (if x0 < 0 then ((some (([45] : List Int) : List Int)).bind fun y128 => (if y128.length + x4.length < 140737488355328 then (some (strOfNums (y128 ++ x4))) else (none))) else (some (strOfNums x4))))
end
def stoleref0_Decimal.f (k : Nat) (a0 : Int) : Option (ByteArray) := if a0 < 0 then (stoleref0_Decimal.j0 k a0 (IntKind.u64.wrap ((IntKind.u64.wrap (wrap64 (-(wrap64 (a0 + 1))))) + 1))) else (stoleref0_Decimal.j0 k a0 (IntKind.u64.wrap (a0)))
theorem stoleref0_Decimal.mono_l : ∀ k, (∀ y0 y1, LeO (stoleref0_Decimal.j0 k y0 y1) (stoleref0_Decimal.j0 (k + 1) y0 y1)) ∧ (∀ y0 y1 y2, LeO (stoleref0_Decimal.l0 k y0 y1 y2) (stoleref0_Decimal.l0 (k + 1) y0 y1 y2))
 | 0 => ⟨fun _ _ r h => by simp [stoleref0_Decimal.j0] at h, fun _ _ _ r h => by simp [stoleref0_Decimal.l0] at h⟩
 | k + 1 => by
  obtain ⟨ih0, ih1⟩ := stoleref0_Decimal.mono_l k
  refine ⟨?_, ?_⟩
  ·intro y0 y1
   unfold stoleref0_Decimal.j0
   repeat' first
   | (with_reducible exact ih0 _ _)
   | (with_reducible exact ih1 _ _ _)
   | (with_reducible exact LeO.refl _)
   | (with_reducible exact LeO.none _)
   | (with_reducible refine LeO.ite ?_ ?_)
   | (with_reducible refine LeO.bind ?_ (fun _ => ?_))
   | exact ih0 _ _
   | exact ih1 _ _ _
   | exact LeO.none _
   | refine LeO.ite ?_ ?_
   | refine LeO.bind ?_ (fun _ => ?_)
  ·intro y0 y1 y2
   unfold stoleref0_Decimal.l0
   repeat' first
   | (with_reducible exact ih0 _ _)
   | (with_reducible exact ih1 _ _ _)
   | (with_reducible exact LeO.refl _)
   | (with_reducible exact LeO.none _)
   | (with_reducible refine LeO.ite ?_ ?_)
   | (with_reducible refine LeO.bind ?_ (fun _ => ?_))
   | exact ih0 _ _
   | exact ih1 _ _ _
   | exact LeO.none _
   | refine LeO.ite ?_ ?_
   | refine LeO.bind ?_ (fun _ => ?_)
theorem stoleref0_Decimal.mono : ∀ a0 k, LeO (stoleref0_Decimal.f k a0) (stoleref0_Decimal.f (k + 1) a0) := by
 intro a0 k
 obtain ⟨ih0, ih1⟩ := stoleref0_Decimal.mono_l k
 unfold stoleref0_Decimal.f
 repeat' first
   | (with_reducible exact ih0 _ _)
   | (with_reducible exact ih1 _ _ _)
   | (with_reducible exact LeO.refl _)
   | (with_reducible exact LeO.none _)
   | (with_reducible refine LeO.ite ?_ ?_)
   | (with_reducible refine LeO.bind ?_ (fun _ => ?_))
   | exact ih0 _ _
   | exact ih1 _ _ _
   | exact LeO.none _
   | refine LeO.ite ?_ ?_
   | refine LeO.bind ?_ (fun _ => ?_)
set_option maxHeartbeats 8000000 in
set_option maxRecDepth 100000 in
theorem stoleref0_Decimal.calls (k : Nat) (a0 : Int) (r : ByteArray) (w : World) (h : stoleref0_Decimal.f k a0 = some r) :
  Calls Tryz.prog 24 #[.int .i64 a0] w fun e w' => e = .returned (.string r) ∧ Below w.heap.size w w' := by
 have HB := Aside0.mk (Below.refl w.heap.size w)
 have H : (if a0 < 0 then (stoleref0_Decimal.j0 k a0 (IntKind.u64.wrap ((IntKind.u64.wrap (wrap64 (-(wrap64 (a0 + 1))))) + 1))) else (stoleref0_Decimal.j0 k a0 (IntKind.u64.wrap (a0)))) = some r := h
 clear h
 have HC2 := Aside0.mk H
 clear H
 go_enter Tryz.func24, Tryz.ntmps24
 go_upto_if 8 with (fail)
 go_cut [3] (fun v3 wc => ∃ (kq : Nat) (x3_1 : Int), v3 = .int .u64 x3_1 ∧ Aside0 (stoleref0_Decimal.j0 kq a0 x3_1 = some r) ∧ Aside0 (kq ≤ k) ∧ Aside0 (Below w.heap.size w wc))
 case first =>
  have H := HC2.out
  clear HC2
  by_cases c3 : a0 < 0
  ·rw [if_pos c3] at H
   have c3b0 : decide (a0 < 0) = true := decide_eq_true c3
   clear c3
   (first | rw [c3b0] | (simp only [i64_w, i32_w]; rw [c3b0]) | skip)
   have H' := Aside0.mk H
   clear H
   go_wp2
   go_meet
   case rel => exact ⟨_, (IntKind.u64.wrap ((IntKind.u64.wrap (wrap64 (-(wrap64 (a0 + 1))))) + 1)), (by first | rfl | (simp; done) | (simp [*]; done)), H', ⟨by first | omega | exact Nat.le_refl _⟩, ⟨by repeat (first | (with_reducible first | exact HB.out | apply below_alloc | apply pw_below_drewN | apply below_drew1) | exact HB.out)⟩⟩
  ·rw [if_neg c3] at H
   have c3b0 : decide (a0 < 0) = false := decide_eq_false c3
   clear c3
   (first | rw [c3b0] | (simp only [i64_w, i32_w]; rw [c3b0]) | skip)
   have H' := Aside0.mk H
   clear H
   go_wp2
   go_meet
   case rel => exact ⟨_, (IntKind.u64.wrap (a0)), (by first | rfl | (simp; done) | (simp [*]; done)), H', ⟨by first | omega | exact Nat.le_refl _⟩, ⟨by repeat (first | (with_reducible first | exact HB.out | apply below_alloc | apply pw_below_drewN | apply below_drew1) | exact HB.out)⟩⟩
 case rest =>
  clear HC2
  try clear c2
  try clear p2
  try clear c3
  try clear c3b0
  obtain ⟨kq, x3_1, rfl, HA, HJ1, HB⟩ := hcut
  cases kq with
  | zero => exact absurd HA.out (by simp [stoleref0_Decimal.j0])
  | succ kj1 =>
   have H := HA.out
   clear HA
   simp only [stoleref0_Decimal.j0] at H
   have H' := Aside0.mk H
   clear H
   go_wp2
   go_loopg [3, 4] kj1 (fun kq v3 v4 w' => ∃ (x3_2 : Int) (x4_2 : List Int), v3 = .int .u64 x3_2 ∧ Aside0 (stoleref0_Decimal.l0 kq a0 x3_2 x4_2 = some r) ∧ Aside0 (kq ≤ kj1) ∧ Aside0 (Kd.R (Kd.int .u8) 5 w' w.heap.size (fun _ => True) v4 x4_2) ∧ Aside0 (Below w.heap.size w w'))
   case atStart => exact ⟨(x3_1), (([] : List Int)), (by first | rfl | (simp; done) | (simp [*]; done)), H', ⟨Nat.le_refl _⟩, ⟨by first | exact Kd.R_nil _ _ _ _ _ | exact Kd.N_nil _ _ _ _ _ | exact Kd.V_nil _ _ _ _ _ | exact Kd.Q_nil _ _ _ _ _ | exact Kd.S_nil _ _ _ _ _⟩, ⟨by repeat (first | (with_reducible first | exact HB.out | apply below_alloc | apply pw_below_drewN | apply below_drew1) | exact HB.out)⟩⟩
   case round =>
    clear H'
    try clear c2
    try clear p2
    try clear c3
    try clear c3b0
    try clear p2
    obtain ⟨x3_2, x4_2, rfl, HA, HK2, HO_4, HB⟩ := hrel
    cases gk with
    | zero => exact absurd HA.out (by simp [stoleref0_Decimal.l0])
    | succ k2 =>
     have H := HA.out
     clear HA
     simp only [stoleref0_Decimal.l0] at H
     by_cases c4 : x3_2 > 0
     ·rw [if_pos c4] at H
      have c4b0 : decide (0 < x3_2) = true := decide_eq_true c4
      clear c4
      obtain ⟨y116, hy116⟩ : ∃ y_ : List Int, y_ = (([(IntKind.u64.wrap (48 + (Int.tmod x3_2 10))) % 256] : List Int)) := ⟨_, rfl⟩
      replace H : (if y116.length + x4_2.length < 140737488355328 then (stoleref0_Decimal.l0 k2 a0 (IntKind.u64.wrap (Int.tdiv x3_2 10)) (y116 ++ x4_2)) else (none)) = some r := by first | (rw [hy116]; with_reducible exact H) | (have H2_ := (Option.bind_some _ _).symm.trans H; rw [hy116]; with_reducible exact H2_) | (have H2_ := (Option.bind_some _ _).symm.trans H; with_reducible exact H2_) | with_reducible exact H | (rw [hy116]; exact H) | exact H
      have Ny116 := Aside0.mk hy116
      clear hy116
      by_cases c5 : y116.length + x4_2.length < 140737488355328
      ·rw [if_pos c5] at H
       have LMc5 := Aside0.mk c5
       clear c5
       obtain ⟨y119, hy119⟩ : ∃ y_ : List Int, y_ = (y116 ++ x4_2) := ⟨_, rfl⟩
       replace H : (stoleref0_Decimal.l0 k2 a0 (IntKind.u64.wrap (Int.tdiv x3_2 10)) y119) = some r := by first | (rw [hy119]; with_reducible exact H) | (have H2_ := (Option.bind_some _ _).symm.trans H; rw [hy119]; with_reducible exact H2_) | (have H2_ := (Option.bind_some _ _).symm.trans H; with_reducible exact H2_) | with_reducible exact H | (rw [hy119]; exact H) | exact H
       have Ny119 := Aside0.mk hy119
       clear hy119
       have H' := Aside0.mk H
       clear H
       go_wp2_with (first | ((with_reducible refine gate_dst (N := 25) rfl ?_); (try (refine gate_guard (by rfl) ?_; dsimp only)); refine Kd.R_lit (Kd.int .u8) _ 5 ?hg (N := 25) ?hd (xs := ([(IntKind.u64.wrap (48 + (Int.tmod x3_2 10))) % 256] : List Int)) (inner := [.int .u8 ((IntKind.u64.wrap (48 + (Int.tmod x3_2 10))) % 256)]) (ok := fun _ => True) (okp := fun _ => True) ?hr ?hp (fun _ hk => hk) trivial (Below.refl _ _) (Nat.le_refl _) (by simp) ?_; (case hd => rfl); (case hg => rfl); (case hr => first | (go_simp; done) | (go_simp; rfl)); (case hp => exact (Reps.one (show Kd.M (Kd.int .u8) _ _ _ ((IntKind.u64.wrap (48 + (Int.tmod x3_2 10))) % 256) [.int .u8 ((IntKind.u64.wrap (48 + (Int.tmod x3_2 10))) % 256)] from rfl) (Reps.none _ _))); intro v117 w6 ho7 hb hg_ hnew_; clear hg_ hnew_; (first | rw [← Ny116.out] at ho7 | (simp only [Int.reduceToNat] at ho7; rw [← Ny116.out] at ho7)); have n0_ := Aside0.mk (Kd.R_elder' (by (with_reducible repeat (first | apply Kd.R_alloc | apply Kd.R_drewN | apply Kd.R_drew)); exact HO_4.out) (Kd.R_base ho7) hb); have n1_ := Aside0.mk (Kd.R_lower (Kd.R_new' ho7 (Kd.R_lt (by (with_reducible repeat (first | apply Kd.R_alloc | apply Kd.R_drewN | apply Kd.R_drew)); exact HO_4.out))) (below_size (by repeat (first | (with_reducible first | exact HB.out | apply below_alloc | apply pw_below_drewN | apply below_drew1) | exact HB.out)))); have n2_ := Aside0.mk (below_step (by repeat (first | (with_reducible first | exact HB.out | apply below_alloc | apply pw_below_drewN | apply below_drew1) | exact HB.out)) hb); clear HO_4; clear HB; have HO_4 := n0_; have HO118 := n1_; have HB := n2_; clear n0_ n1_ n2_; clear hb ho7; obtain ⟨Ao9, co9, eo9⟩ := Kd.R_slice HO_4.out; subst eo9) | ((with_reducible refine gate_builtin (b := .append) (xs := #[.tmp 25, .tmp 26]) rfl ?_); (try (refine gate_guard (by rfl) ?_; dsimp only)); at_builtin; refine Kd.R_append_rows (Kd.int .u8) (w0 := w) w.heap.size rfl (.tmp 25) (.tmp 26) 37 5 (.int .u8 0) 1 rfl Tryz.underlying37 info5 rfl (by decide) (by omega) v117 y116 x4_2 _ _ _ (fun k_ => some k_ ≠ (.slice Ao9 x4_2.length co9 : Value).ownBlock) (fun _ => False) rfl rfl ?aO ?aR (fun _ _ h => h) (fun _ h => h.elim) ?aF ?aB ?aS ?aL ?_; (case aR => repeat (first | exact (Kd.R_reads' HO_4.out).2.2 | (with_reducible refine Kd.C_alloc ?_ _) | (with_reducible refine Kd.C_drewN ?_ _) | (with_reducible refine Kd.C_drew ?_))); (case aB => exact (by repeat (first | (with_reducible first | exact HB.out | apply below_alloc | apply pw_below_drewN | apply below_drew1) | exact HB.out))); (case aF => exact (fun k_ hk => Kd.fresh' (Kd.R_lt (by (with_reducible repeat (first | apply Kd.R_alloc | apply Kd.R_drewN | apply Kd.R_drew)); exact HO_4.out)) k_ hk)); (case aO => exact (by (with_reducible repeat (first | apply Kd.R_alloc | apply Kd.R_drewN | apply Kd.R_drew)); exact Kd.R_mono HO118.out (fun _ hk => hk.2))); (case aS => exact (below_size (by repeat (first | (with_reducible first | exact HB.out | apply below_alloc | apply pw_below_drewN | apply below_drew1) | exact HB.out)))); (case aL => have := LMc5.out; first | omega | exact Nat.le_of_lt this); intro v120 w8 ho hb hg hat; rw [← Ny119.out] at ho; have n0_ := Aside0.mk (Kd.R_after (ok := (fun _ => True)) (by (with_reducible repeat (first | apply Kd.R_alloc | apply Kd.R_drewN | apply Kd.R_drew)); exact HO_4.out) hg hat); have n1_ := Aside0.mk (hb); have n2_ := Aside0.mk (ho); clear HO_4; clear HB; clear HO118; have HO_4 := n0_; have HB := n1_; have HO121 := n2_; clear n0_ n1_ n2_; clear ho hb hg hat))
       go_roundg k2
       case measure => have := HJ1.out; have := HK2.out; omega
       case rel => exact ⟨(IntKind.u64.wrap (Int.tdiv x3_2 10)), (y119), (by first | rfl | (simp; done) | (simp [*]; done)), H', ⟨by have := HJ1.out; have := HK2.out; omega⟩, ⟨by (with_reducible repeat (first | apply Kd.R_alloc | apply Kd.R_drewN | apply Kd.R_drew)); exact Kd.R_mono HO121.out (fun _ hk => trivial)⟩, ⟨by repeat (first | (with_reducible first | exact HB.out | apply below_alloc | apply pw_below_drewN | apply below_drew1) | exact HB.out)⟩⟩
      ·rw [if_neg c5] at H
       exact absurd H (by simp)
     ·rw [if_neg c4] at H
      have c4b0 : decide (0 < x3_2) = false := decide_eq_false c4
      clear c4
      by_cases c10 : (x4_2.length : Int) = 0
      ·rw [if_pos c10] at H
       have c10b0 : ((x4_2.length : Int) == 0) = true := beq_iff_eq.mpr c10
       have c10b1 : ((x4_2.length : Int) != 0) = false := bne_eq_false_iff_eq.mpr c10
       clear c10
       obtain ⟨y122, hy122⟩ : ∃ y_ : List Int, y_ = (([(IntKind.u64.wrap (48 + (Int.tmod x3_2 10))) % 256] : List Int)) := ⟨_, rfl⟩
       replace H : (if y122.length + x4_2.length < 140737488355328 then (stoleref0_Decimal.l0 k2 a0 (IntKind.u64.wrap (Int.tdiv x3_2 10)) (y122 ++ x4_2)) else (none)) = some r := by first | (rw [hy122]; with_reducible exact H) | (have H2_ := (Option.bind_some _ _).symm.trans H; rw [hy122]; with_reducible exact H2_) | (have H2_ := (Option.bind_some _ _).symm.trans H; with_reducible exact H2_) | with_reducible exact H | (rw [hy122]; exact H) | exact H
       have Ny122 := Aside0.mk hy122
       clear hy122
       by_cases c11 : y122.length + x4_2.length < 140737488355328
       ·rw [if_pos c11] at H
        have LMc11 := Aside0.mk c11
        clear c11
        obtain ⟨y125, hy125⟩ : ∃ y_ : List Int, y_ = (y122 ++ x4_2) := ⟨_, rfl⟩
        replace H : (stoleref0_Decimal.l0 k2 a0 (IntKind.u64.wrap (Int.tdiv x3_2 10)) y125) = some r := by first | (rw [hy125]; with_reducible exact H) | (have H2_ := (Option.bind_some _ _).symm.trans H; rw [hy125]; with_reducible exact H2_) | (have H2_ := (Option.bind_some _ _).symm.trans H; with_reducible exact H2_) | with_reducible exact H | (rw [hy125]; exact H) | exact H
        have Ny125 := Aside0.mk hy125
        clear hy125
        have H' := Aside0.mk H
        clear H
        obtain ⟨Ao12, co12, eo12⟩ := Kd.R_slice HO_4.out
        subst eo12
        go_wp2_with (first | ((with_reducible refine gate_dst (N := 25) rfl ?_); (try (refine gate_guard (by rfl) ?_; dsimp only)); refine Kd.R_lit (Kd.int .u8) _ 5 ?hg (N := 25) ?hd (xs := ([(IntKind.u64.wrap (48 + (Int.tmod x3_2 10))) % 256] : List Int)) (inner := [.int .u8 ((IntKind.u64.wrap (48 + (Int.tmod x3_2 10))) % 256)]) (ok := fun _ => True) (okp := fun _ => True) ?hr ?hp (fun _ hk => hk) trivial (Below.refl _ _) (Nat.le_refl _) (by simp) ?_; (case hd => rfl); (case hg => rfl); (case hr => first | (go_simp; done) | (go_simp; rfl)); (case hp => exact (Reps.one (show Kd.M (Kd.int .u8) _ _ _ ((IntKind.u64.wrap (48 + (Int.tmod x3_2 10))) % 256) [.int .u8 ((IntKind.u64.wrap (48 + (Int.tmod x3_2 10))) % 256)] from rfl) (Reps.none _ _))); intro v123 w13 ho14 hb hg_ hnew_; clear hg_ hnew_; (first | rw [← Ny122.out] at ho14 | (simp only [Int.reduceToNat] at ho14; rw [← Ny122.out] at ho14)); have n0_ := Aside0.mk (Kd.R_elder' (by (with_reducible repeat (first | apply Kd.R_alloc | apply Kd.R_drewN | apply Kd.R_drew)); exact HO_4.out) (Kd.R_base ho14) hb); have n1_ := Aside0.mk (Kd.R_lower (Kd.R_new' ho14 (Kd.R_lt (by (with_reducible repeat (first | apply Kd.R_alloc | apply Kd.R_drewN | apply Kd.R_drew)); exact HO_4.out))) (below_size (by repeat (first | (with_reducible first | exact HB.out | apply below_alloc | apply pw_below_drewN | apply below_drew1) | exact HB.out)))); have n2_ := Aside0.mk (below_step (by repeat (first | (with_reducible first | exact HB.out | apply below_alloc | apply pw_below_drewN | apply below_drew1) | exact HB.out)) hb); clear HO_4; clear HB; have HO_4 := n0_; have HO124 := n1_; have HB := n2_; clear n0_ n1_ n2_; clear hb ho14) | ((with_reducible refine gate_builtin (b := .append) (xs := #[.tmp 25, .tmp 26]) rfl ?_); (try (refine gate_guard (by rfl) ?_; dsimp only)); at_builtin; refine Kd.R_append_rows (Kd.int .u8) (w0 := w) w.heap.size rfl (.tmp 25) (.tmp 26) 37 5 (.int .u8 0) 1 rfl Tryz.underlying37 info5 rfl (by decide) (by omega) v123 y122 x4_2 _ _ _ (fun k_ => some k_ ≠ (.slice Ao12 x4_2.length co12 : Value).ownBlock) (fun _ => False) rfl rfl ?aO ?aR (fun _ _ h => h) (fun _ h => h.elim) ?aF ?aB ?aS ?aL ?_; (case aR => repeat (first | exact (Kd.R_reads' HO_4.out).2.2 | (with_reducible refine Kd.C_alloc ?_ _) | (with_reducible refine Kd.C_drewN ?_ _) | (with_reducible refine Kd.C_drew ?_))); (case aB => exact (by repeat (first | (with_reducible first | exact HB.out | apply below_alloc | apply pw_below_drewN | apply below_drew1) | exact HB.out))); (case aF => exact (fun k_ hk => Kd.fresh' (Kd.R_lt (by (with_reducible repeat (first | apply Kd.R_alloc | apply Kd.R_drewN | apply Kd.R_drew)); exact HO_4.out)) k_ hk)); (case aO => exact (by (with_reducible repeat (first | apply Kd.R_alloc | apply Kd.R_drewN | apply Kd.R_drew)); exact Kd.R_mono HO124.out (fun _ hk => hk.2))); (case aS => exact (below_size (by repeat (first | (with_reducible first | exact HB.out | apply below_alloc | apply pw_below_drewN | apply below_drew1) | exact HB.out)))); (case aL => have := LMc11.out; first | omega | exact Nat.le_of_lt this); intro v126 w15 ho hb hg hat; rw [← Ny125.out] at ho; have n0_ := Aside0.mk (Kd.R_after (ok := (fun _ => True)) (by (with_reducible repeat (first | apply Kd.R_alloc | apply Kd.R_drewN | apply Kd.R_drew)); exact HO_4.out) hg hat); have n1_ := Aside0.mk (hb); have n2_ := Aside0.mk (ho); clear HO_4; clear HB; clear HO124; have HO_4 := n0_; have HB := n1_; have HO127 := n2_; clear n0_ n1_ n2_; clear ho hb hg hat))
        go_roundg k2
        case measure => have := HJ1.out; have := HK2.out; omega
        case rel => exact ⟨(IntKind.u64.wrap (Int.tdiv x3_2 10)), (y125), (by first | rfl | (simp; done) | (simp [*]; done)), H', ⟨by have := HJ1.out; have := HK2.out; omega⟩, ⟨by (with_reducible repeat (first | apply Kd.R_alloc | apply Kd.R_drewN | apply Kd.R_drew)); exact Kd.R_mono HO127.out (fun _ hk => trivial)⟩, ⟨by repeat (first | (with_reducible first | exact HB.out | apply below_alloc | apply pw_below_drewN | apply below_drew1) | exact HB.out)⟩⟩
       ·rw [if_neg c11] at H
        exact absurd H (by simp)
      ·rw [if_neg c10] at H
       have c10b0 : ((x4_2.length : Int) == 0) = false := beq_eq_false_iff_ne.mpr c10
       have c10b1 : ((x4_2.length : Int) != 0) = true := bne_iff_ne.mpr c10
       have c10b2 : ¬ (x4_2 = []) := fun h_ => c10 (by rw [h_]; rfl)
       by_cases c16 : a0 < 0
       ·rw [if_pos c16] at H
        have c16b0 : decide (a0 < 0) = true := decide_eq_true c16
        clear c16
        obtain ⟨y128, hy128⟩ : ∃ y_ : List Int, y_ = (([45] : List Int)) := ⟨_, rfl⟩
        replace H : (if y128.length + x4_2.length < 140737488355328 then (some (strOfNums (y128 ++ x4_2))) else (none)) = some r := by first | (rw [hy128]; with_reducible exact H) | (have H2_ := (Option.bind_some _ _).symm.trans H; rw [hy128]; with_reducible exact H2_) | (have H2_ := (Option.bind_some _ _).symm.trans H; with_reducible exact H2_) | with_reducible exact H | (rw [hy128]; exact H) | exact H
        have Ny128 := Aside0.mk hy128
        clear hy128
        by_cases c17 : y128.length + x4_2.length < 140737488355328
        ·rw [if_pos c17] at H
         have LMc17 := Aside0.mk c17
         clear c17
         obtain ⟨y131, hy131⟩ : ∃ y_ : List Int, y_ = (y128 ++ x4_2) := ⟨_, rfl⟩
         replace H : (some (strOfNums y131)) = some r := by first | (rw [hy131]; with_reducible exact H) | (have H2_ := (Option.bind_some _ _).symm.trans H; rw [hy131]; with_reducible exact H2_) | (have H2_ := (Option.bind_some _ _).symm.trans H; with_reducible exact H2_) | with_reducible exact H | (rw [hy131]; exact H) | exact H
         have Ny131 := Aside0.mk hy131
         clear hy131
         obtain rfl := Option.some.inj H
         obtain ⟨Ao18, co18, eo18⟩ := Kd.R_slice HO_4.out
         subst eo18
         go_wp2_with (first | ((with_reducible refine gate_dst (N := 32) rfl ?_); (try (refine gate_guard (by rfl) ?_; dsimp only)); refine Kd.R_lit (Kd.int .u8) _ 5 ?hg (N := 32) ?hd (xs := ([45] : List Int)) (inner := [.int .u8 45]) (ok := fun _ => True) (okp := fun _ => True) ?hr ?hp (fun _ hk => hk) trivial (Below.refl _ _) (Nat.le_refl _) (by simp) ?_; (case hd => rfl); (case hg => rfl); (case hr => first | (go_simp; done) | (go_simp; rfl)); (case hp => exact (Reps.one (show Kd.M (Kd.int .u8) _ _ _ 45 [.int .u8 45] from rfl) (Reps.none _ _))); intro v129 w19 ho20 hb hg_ hnew_; clear hg_ hnew_; (first | rw [← Ny128.out] at ho20 | (simp only [Int.reduceToNat] at ho20; rw [← Ny128.out] at ho20)); have n0_ := Aside0.mk (Kd.R_elder' (by (with_reducible repeat (first | apply Kd.R_alloc | apply Kd.R_drewN | apply Kd.R_drew)); exact HO_4.out) (Kd.R_base ho20) hb); have n1_ := Aside0.mk (Kd.R_lower (Kd.R_new' ho20 (Kd.R_lt (by (with_reducible repeat (first | apply Kd.R_alloc | apply Kd.R_drewN | apply Kd.R_drew)); exact HO_4.out))) (below_size (by repeat (first | (with_reducible first | exact HB.out | apply below_alloc | apply pw_below_drewN | apply below_drew1) | exact HB.out)))); have n2_ := Aside0.mk (below_step (by repeat (first | (with_reducible first | exact HB.out | apply below_alloc | apply pw_below_drewN | apply below_drew1) | exact HB.out)) hb); clear HO_4; clear HB; have HO_4 := n0_; have HO130 := n1_; have HB := n2_; clear n0_ n1_ n2_; clear hb ho20) | ((with_reducible refine gate_builtin (b := .append) (xs := #[.tmp 32, .tmp 33]) rfl ?_); (try (refine gate_guard (by rfl) ?_; dsimp only)); at_builtin; refine Kd.R_append_rows (Kd.int .u8) (w0 := w) w.heap.size rfl (.tmp 32) (.tmp 33) 37 5 (.int .u8 0) 1 rfl Tryz.underlying37 info5 rfl (by decide) (by omega) v129 y128 x4_2 _ _ _ (fun k_ => some k_ ≠ (.slice Ao18 x4_2.length co18 : Value).ownBlock) (fun _ => False) rfl rfl ?aO ?aR (fun _ _ h => h) (fun _ h => h.elim) ?aF ?aB ?aS ?aL ?_; (case aR => repeat (first | exact (Kd.R_reads' HO_4.out).2.2 | (with_reducible refine Kd.C_alloc ?_ _) | (with_reducible refine Kd.C_drewN ?_ _) | (with_reducible refine Kd.C_drew ?_))); (case aB => exact (by repeat (first | (with_reducible first | exact HB.out | apply below_alloc | apply pw_below_drewN | apply below_drew1) | exact HB.out))); (case aF => exact (fun k_ hk => Kd.fresh' (Kd.R_lt (by (with_reducible repeat (first | apply Kd.R_alloc | apply Kd.R_drewN | apply Kd.R_drew)); exact HO_4.out)) k_ hk)); (case aO => exact (by (with_reducible repeat (first | apply Kd.R_alloc | apply Kd.R_drewN | apply Kd.R_drew)); exact Kd.R_mono HO130.out (fun _ hk => hk.2))); (case aS => exact (below_size (by repeat (first | (with_reducible first | exact HB.out | apply below_alloc | apply pw_below_drewN | apply below_drew1) | exact HB.out)))); (case aL => have := LMc17.out; first | omega | exact Nat.le_of_lt this); intro v132 w21 ho hb hg hat; rw [← Ny131.out] at ho; have n0_ := Aside0.mk (Kd.R_after (ok := (fun _ => True)) (by (with_reducible repeat (first | apply Kd.R_alloc | apply Kd.R_drewN | apply Kd.R_drew)); exact HO_4.out) hg hat); have n1_ := Aside0.mk (hb); have n2_ := Aside0.mk (ho); clear HO_4; clear HB; clear HO130; have HO_4 := n0_; have HB := n1_; have HO133 := n2_; clear n0_ n1_ n2_; clear ho hb hg hat; have hcv22 := own_string (P := Tryz.prog) Tryz.underlying37 Tryz.underlying5 Tryz.underlying9 (Kd.own_of_R HO133.out)))
         go_ret
         exact ⟨by first | rfl | (simp [errW_none, errW_some] <;> rfl) | (simp [*, errW_none, errW_some] <;> rfl), by repeat (first | (with_reducible first | exact HB.out | apply below_alloc | apply pw_below_drewN | apply below_drew1) | exact HB.out)⟩
        ·rw [if_neg c17] at H
         exact absurd H (by simp)
       ·rw [if_neg c16] at H
        have c16b0 : decide (a0 < 0) = false := decide_eq_false c16
        clear c16
        obtain rfl := Option.some.inj H
        obtain ⟨Ao23, co23, eo23⟩ := Kd.R_slice HO_4.out
        subst eo23
        have hcv24 := own_string (P := Tryz.prog) Tryz.underlying37 Tryz.underlying5 Tryz.underlying9 (Kd.own_of_R HO_4.out)
        go_wp2
        go_ret
        exact ⟨by first | rfl | (simp [errW_none, errW_some] <;> rfl) | (simp [*, errW_none, errW_some] <;> rfl), by repeat (first | (with_reducible first | exact HB.out | apply below_alloc | apply pw_below_drewN | apply below_drew1) | exact HB.out)⟩
-- NOT PRINTED: function 57 (stoleref18_heldAt)
-- NOT PRINTED: function 58 (stoleref18_script)
-- NOT PRINTED: function 59 (stoleref18_title)
-- NOT PRINTED: function 73 (stoleref1_AttrKind)
-- NOT PRINTED: function 119 (stoleref18_value)
-- NOT PRINTED: function 61 (stoleref18_entered)
-- NOT PRINTED: function 62 (stoleref18_refs)
-- NOT PRINTED: function 25 (stoleref18_CtxMay)
-- NOT PRINTED: function 4 (stolelaw5_TokenTags)
-- NOT PRINTED: function 175 (tree_attrs)
-- NOT PRINTED: function 120 (tree_may)
-- NOT PRINTED: function 176 (tree_builder_inner)
-- NOT PRINTED: function 122 (tree_builder_node)
-- NOT PRINTED: function 121 (tree_builder_text)
-- NOT PRINTED: function 177 (api_Attr_177)
-- NOT PRINTED: function 123 (tree_builder_start)
-- NOT PRINTED: function 124 (tree_builder_end)
-- NOT PRINTED: function 63 (tree_Build)
-- NOT PRINTED: function 27 (page_Parse)
-- NOT PRINTED: function 125 (stoleref5_tokenMay)
-- NOT PRINTED: function 178 (stoleref5_maker_node)
-- NOT PRINTED: function 126 (stoleref5_maker_token)
-- NOT PRINTED: function 64 (stoleref5_Build)
-- NOT PRINTED: function 28 (stoleref5_Parse)
def IsS69 (w0 W : World) (g : Nat) (f0 : Int) (f1 : ByteArray) (f2 : ByteArray) (f3 : List (S39)) (f4 : Int) : Prop := ∃ A3 c3, W.heap[g]? = some (.cells #[.int .i64 f0, .string f1, .string f2, .slice A3 f3.length c3, .int .i64 f4] 69 (0, 0)) ∧ w0.heap.size ≤ g ∧ Kd.C k39 w0 A3 f3.length f3
theorem IsS69.grown {w0 W : World} {g : Nat} {f0 : Int} {f1 : ByteArray} {f2 : ByteArray} {f3 : List (S39)} {f4 : Int} {W1 : World} {row : Option Nat} (h : IsS69 w0 W g f0 f1 f2 f3 f4) (hw : W.grownBy W1 row) (hne : some g ≠ row) : IsS69 w0 W1 g f0 f1 f2 f3 f4 := by
 obtain ⟨A3, c3, hb, hg, hr3⟩ := h
 exact ⟨A3, c3, blk_grown hb hw hne, hg, hr3⟩
theorem IsS69.kept {w0 W : World} {g : Nat} {f0 : Int} {f1 : ByteArray} {f2 : ByteArray} {f3 : List (S39)} {f4 : Int} {W1 : World} {S : Nat → Prop} (h : IsS69 w0 W g f0 f1 f2 f3 f4) (hk : Kept W W1 S) (hne : ¬ S g) : IsS69 w0 W1 g f0 f1 f2 f3 f4 := by
 obtain ⟨A3, c3, hb, hg, hr3⟩ := h
 exact ⟨A3, c3, blk_kept hb hk hne, hg, hr3⟩
theorem IsS69.below {w0 W : World} {g : Nat} {f0 : Int} {f1 : ByteArray} {f2 : ByteArray} {f3 : List (S39)} {f4 : Int} {W1 : World} (h : IsS69 w0 W g f0 f1 f2 f3 f4) (hw : Below W.heap.size W W1) : IsS69 w0 W1 g f0 f1 f2 f3 f4 := h.grown (grown_of_below hw none) (by simp)
theorem IsS69.alloc {w0 W : World} {g : Nat} {f0 : Int} {f1 : ByteArray} {f2 : ByteArray} {f3 : List (S39)} {f4 : Int} (h : IsS69 w0 W g f0 f1 f2 f3 f4) (o : Obj) : IsS69 w0 (W.alloc o) g f0 f1 f2 f3 f4 := h.below (below_alloc (Below.refl _ _) o)
theorem IsS69.drewN {w0 W : World} {g : Nat} {f0 : Int} {f1 : ByteArray} {f2 : ByteArray} {f3 : List (S39)} {f4 : Int} (h : IsS69 w0 W g f0 f1 f2 f3 f4) (m : Nat) : IsS69 w0 (W.drewN m) g f0 f1 f2 f3 f4 := h
theorem IsS69.drew {w0 W : World} {g : Nat} {f0 : Int} {f1 : ByteArray} {f2 : ByteArray} {f3 : List (S39)} {f4 : Int} (h : IsS69 w0 W g f0 f1 f2 f3 f4) : IsS69 w0 W.drew g f0 f1 f2 f3 f4 := h
theorem IsS69.at_ {w0 W : World} {g : Nat} {f0 : Int} {f1 : ByteArray} {f2 : ByteArray} {f3 : List (S39)} {f4 : Int} {w' : World} {m : Nat} (hq : W.drewN m = w') (h : IsS69 w0 W g f0 f1 f2 f3 f4) : IsS69 w0 w' g f0 f1 f2 f3 f4 := by subst hq; exact IsS69.drewN h m
theorem IsS69.apart {w0 W : World} {g : Nat} {f0 : Int} {f1 : ByteArray} {f2 : ByteArray} {f3 : List (S39)} {f4 : Int} {α : Type} {d : Kd α} {e : Nat} {base : Nat} {ok : Nat → Prop} {v : Value} {xs : List α} (h : IsS69 w0 W g f0 f1 f2 f3 f4) (ho : d.R e W base ok v xs) (ht : ∀ q, q ∈ e :: d.E → q ≠ 69) : d.R e W base (fun k => ok k ∧ k ≠ g) v xs := by
 obtain ⟨A3, c3, hb, hg, hr3⟩ := h
 exact Kd.R_types ho hb ht
theorem IsS69.own_ne {w0 W : World} {g : Nat} {f0 : Int} {f1 : ByteArray} {f2 : ByteArray} {f3 : List (S39)} {f4 : Int} {α : Type} {d : Kd α} {e : Nat} {base : Nat} {ok : Nat → Prop} {v : Value} {xs : List α} (h : IsS69 w0 W g f0 f1 f2 f3 f4) (ho : d.R e W base ok v xs) (ht : e ≠ 69) : some g ≠ v.ownBlock := by
 obtain ⟨A3, c3, hb, hg, hr3⟩ := h
 exact Kd.R_ne ho hb ht
theorem IsS69.lt {w0 W : World} {g : Nat} {f0 : Int} {f1 : ByteArray} {f2 : ByteArray} {f3 : List (S39)} {f4 : Int} (h : IsS69 w0 W g f0 f1 f2 f3 f4) : g < W.heap.size := by
 obtain ⟨A3, c3, hb, hg, hr3⟩ := h
 exact blk_lt hb
theorem IsS69.new (w0 W : World) (A3 : Option Addr) (c3 : Nat) (f0 : Int) (f1 : ByteArray) (f2 : ByteArray) (f3 : List (S39)) (f4 : Int) (hB : Below w0.heap.size w0 W) (hr3 : Kd.C k39 w0 A3 f3.length f3) : IsS69 w0 (W.alloc (.cells #[.int .i64 f0, .string f1, .string f2, .slice A3 f3.length c3, .int .i64 f4] 69)) W.heap.size f0 f1 f2 f3 f4 := ⟨A3, c3, by simpa using heap_alloc_new W _, hB.size, hr3⟩
/-! ### page_plain: function 127 -/
-- NOT PRINTED: function 65 (page_may)
-- NOT PRINTED: function 212 (strconv_small)
-- NOT PRINTED: function 233 (strconv_log10Pow2)
-- NOT PRINTED: function 234 (bits_Len64)
-- NOT PRINTED: function 235 (strconv_bool2_int)
-- NOT PRINTED: function 213 (strconv_numDigits)
-- NOT PRINTED: function 214 (strconv_formatBase10)
-- NOT PRINTED: function 236 (strconv_isPowerOfTwo)
-- NOT PRINTED: function 248 (bits_TrailingZeros32)
-- NOT PRINTED: function 249 (bits_TrailingZeros64)
-- NOT PRINTED: function 237 (bits_TrailingZeros)
-- NOT PRINTED: function 215 (strconv_formatBits)
-- NOT PRINTED: function 180 (strconv_FormatInt)
-- NOT PRINTED: function 129 (strconv_Itoa_129)
-- NOT PRINTED: function 67 (strconv_Itoa_67)
-- NOT PRINTED: function 29 (page_Skeleton)
end Go.Proofs.YtfmcdlbbbmeolaaGreatDoor.XK
end
section
namespace Go.Proofs.YtfmcdlbbbmeolaaGreatDoor.XK
end Go.Proofs.YtfmcdlbbbmeolaaGreatDoor.XK
end
section
namespace Go.Proofs.YtfmcdlbbbmeolaaGreatDoor.XK
open Go.RowKit Go.Proofs.YtfmcdlbbbmeolaaGreatDoorW.PrintWords Go.Proofs.YtfmcdlbbbmeolaaGreatDoorW.PrintLast Go.Proofs.YtfmcdlbbbmeolaaGreatDoorW.PrintMore
attribute [local go_sem] max2_int min2_int max_two min_two max_three min_three max_four min_four   -- for this text's walks alone
set_option linter.unusedVariables false
set_option linter.unusedSimpArgs false
/-! ### stoleref5_Texts: function 32 -/
-- NOT PRINTED: function 33 (stolelaw0_SameNodes)
/-! ### stolelaw0_SameTexts: function 34 -/
def stolelaw0_SameTexts.l0 : Nat → List ByteArray → List ByteArray → Int → Option (Bool)
 | 0, _, _, _ => none
 | k + 1, x0, x1, x5 => if x5 < (x0.length : Int) then (if 0 ≤ x5 then (if x5 < (x1.length : Int) then (if (rdOf ByteArray.empty x0 x5).toList = (rdOf ByteArray.empty x1 x5).toList then (stolelaw0_SameTexts.l0 k x0 x1 (wrap64 (x5 + 1))) else (some false)) else (none)) else (none)) else (some true)
def stolelaw0_SameTexts.f (k : Nat) (l0 : List ByteArray) (l1 : List ByteArray) : Option (Bool) := if (l0.length : Int) = (l1.length : Int) then (stolelaw0_SameTexts.l0 k l0 l1 0) else (some false)
theorem stolelaw0_SameTexts.mono_l : ∀ k, (∀ y0 y1 y2, LeO (stolelaw0_SameTexts.l0 k y0 y1 y2) (stolelaw0_SameTexts.l0 (k + 1) y0 y1 y2))
 | 0 => fun _ _ _ r h => by simp [stolelaw0_SameTexts.l0] at h
 | k + 1 => by
  have ih0 := stolelaw0_SameTexts.mono_l k
  ·intro y0 y1 y2
   unfold stolelaw0_SameTexts.l0
   repeat' first
   | (with_reducible exact ih0 _ _ _)
   | (with_reducible exact LeO.refl _)
   | (with_reducible exact LeO.none _)
   | (with_reducible refine LeO.ite ?_ ?_)
   | (with_reducible refine LeO.bind ?_ (fun _ => ?_))
   | exact ih0 _ _ _
   | exact LeO.none _
   | refine LeO.ite ?_ ?_
   | refine LeO.bind ?_ (fun _ => ?_)
theorem stolelaw0_SameTexts.mono : ∀ a0 a1 k, LeO (stolelaw0_SameTexts.f k a0 a1) (stolelaw0_SameTexts.f (k + 1) a0 a1) := by
 intro a0 a1 k
 have ih0 := stolelaw0_SameTexts.mono_l k
 unfold stolelaw0_SameTexts.f
 repeat' first
   | (with_reducible exact ih0 _ _ _)
   | (with_reducible exact LeO.refl _)
   | (with_reducible exact LeO.none _)
   | (with_reducible refine LeO.ite ?_ ?_)
   | (with_reducible refine LeO.bind ?_ (fun _ => ?_))
   | exact ih0 _ _ _
   | exact LeO.none _
   | refine LeO.ite ?_ ?_
   | refine LeO.bind ?_ (fun _ => ?_)
set_option maxHeartbeats 8000000 in
set_option maxRecDepth 100000 in
theorem stolelaw0_SameTexts.calls (k : Nat) (A0 : Option Addr) (c0 : Nat) (l0 : List ByteArray) (A1 : Option Addr) (c1 : Nat) (l1 : List ByteArray) (r : Bool) (w : World) (hr0 : Kd.C Kd.string w A0 l0.length l0) (hc0 : l0.length ≤ c0) (hr1 : Kd.C Kd.string w A1 l1.length l1) (hc1 : l1.length ≤ c1) (h : stolelaw0_SameTexts.f k l0 l1 = some r) :
  Calls Tryz.prog 34 #[.slice A0 l0.length c0, .slice A1 l1.length c1] w fun e w' => e = .returned (.bool r) ∧ Drawn0 w w' := by
 have HR0 := Aside0.mk hr0
 have HC0 := Aside0.mk hc0
 clear hr0 hc0
 have HR1 := Aside0.mk hr1
 have HC1 := Aside0.mk hc1
 clear hr1 hc1
 have H : (if (l0.length : Int) = (l1.length : Int) then (stolelaw0_SameTexts.l0 k l0 l1 0) else (some false)) = some r := h
 clear h
 by_cases c3 : (l0.length : Int) = (l1.length : Int)
 ·rw [if_pos c3] at H
  have c3b0 : ((l0.length : Int) == (l1.length : Int)) = true := beq_iff_eq.mpr c3
  have c3b1 : ((l0.length : Int) != (l1.length : Int)) = false := bne_eq_false_iff_eq.mpr c3
  have c3b2 : (l0.length == l1.length) = true := by first | simpa using c3 | (simp at c3 ⊢; omega)
  clear c3
  have H' := Aside0.mk H
  clear H
  go_enter Tryz.func34, Tryz.ntmps34
  go_wp2
  repeat (go_quiet (fail); try go_wp2)
  go_loopg [5] k (fun kq v5 w' => ∃ (x5_1 : Int), v5 = .int .i64 x5_1 ∧ Aside0 (stolelaw0_SameTexts.l0 kq l0 l1 x5_1 = some r) ∧ Aside0 (kq ≤ k) ∧ Drawn0 w w')
  case atStart => exact ⟨(0), (by first | rfl | (simp; done) | (simp [*]; done)), H', ⟨Nat.le_refl _⟩, by repeat (first | exact Drawn0.refl _ | apply Drawn0.step)⟩
  case round =>
   clear H'
   try clear c1
   try clear p2
   try clear c3
   try clear c3b0
   try clear c3b1
   try clear c3b2
   obtain ⟨x5_1, rfl, HA, HK1, ⟨m1, rfl⟩⟩ := hrel
   cases gk with
   | zero => exact absurd HA.out (by simp [stolelaw0_SameTexts.l0])
   | succ k1 =>
    have H := HA.out
    clear HA
    simp only [stolelaw0_SameTexts.l0] at H
    by_cases c4 : x5_1 < (l0.length : Int)
    ·rw [if_pos c4] at H
     have c4b0 : decide (x5_1 < (l0.length : Int)) = true := decide_eq_true c4
     clear c4
     by_cases c5 : 0 ≤ x5_1
     ·rw [if_pos c5] at H
      have c5b0 : decide (0 ≤ x5_1) = true := decide_eq_true c5
      clear c5
      by_cases c6 : x5_1 < (l1.length : Int)
      ·rw [if_pos c6] at H
       have c6b0 : decide (x5_1 < (l1.length : Int)) = true := decide_eq_true c6
       clear c6
       by_cases c7 : (rdOf ByteArray.empty l0 x5_1).toList = (rdOf ByteArray.empty l1 x5_1).toList
       ·rw [if_pos c7] at H
        have c7b0 : ((rdOf ByteArray.empty l0 x5_1).toList == (rdOf ByteArray.empty l1 x5_1).toList) = true := beq_iff_eq.mpr c7
        have c7b1 : ((rdOf ByteArray.empty l0 x5_1).toList != (rdOf ByteArray.empty l1 x5_1).toList) = false := bne_eq_false_iff_eq.mpr c7
        clear c7
        have H' := Aside0.mk H
        clear H
        have p156 : 0 ≤ (x5_1 : Int) := of_decide_eq_true (by first | (with_reducible assumption) | assumption)
        have q156 : x5_1 < (l0.length : Int) := of_decide_eq_true (by first | (with_reducible assumption) | assumption)
        obtain ⟨ad156, e156, hx156_0⟩ := Kd.at_string HR0.out x5_1 p156 q156
        cases e156
        replace p156 := eq_true p156
        replace q156 := eq_true q156
        have p157 : 0 ≤ (x5_1 : Int) := of_decide_eq_true (by first | (with_reducible assumption) | assumption)
        have q157 : x5_1 < (l1.length : Int) := of_decide_eq_true (by first | (with_reducible assumption) | assumption)
        obtain ⟨ad157, e157, hx157_0⟩ := Kd.at_string HR1.out x5_1 p157 q157
        cases e157
        replace p157 := eq_true p157
        replace q157 := eq_true q157
        go_wp2
        repeat (go_quiet (fail); try go_wp2)
        go_roundg k1
        case measure => have := HK1.out; omega
        case rel => exact ⟨(wrap64 (x5_1 + 1)), (by first | rfl | (simp; done) | (simp [*]; done)), H', ⟨by have := HK1.out; omega⟩, by repeat (first | exact Drawn0.refl _ | apply Drawn0.step)⟩
       ·rw [if_neg c7] at H
        have c7b0 : ((rdOf ByteArray.empty l0 x5_1).toList == (rdOf ByteArray.empty l1 x5_1).toList) = false := beq_eq_false_iff_ne.mpr c7
        have c7b1 : ((rdOf ByteArray.empty l0 x5_1).toList != (rdOf ByteArray.empty l1 x5_1).toList) = true := bne_iff_ne.mpr c7
        obtain rfl := Option.some.inj H
        have p156 : 0 ≤ (x5_1 : Int) := of_decide_eq_true (by first | (with_reducible assumption) | assumption)
        have q156 : x5_1 < (l0.length : Int) := of_decide_eq_true (by first | (with_reducible assumption) | assumption)
        obtain ⟨ad156, e156, hx156_0⟩ := Kd.at_string HR0.out x5_1 p156 q156
        cases e156
        replace p156 := eq_true p156
        replace q156 := eq_true q156
        have p157 : 0 ≤ (x5_1 : Int) := of_decide_eq_true (by first | (with_reducible assumption) | assumption)
        have q157 : x5_1 < (l1.length : Int) := of_decide_eq_true (by first | (with_reducible assumption) | assumption)
        obtain ⟨ad157, e157, hx157_0⟩ := Kd.at_string HR1.out x5_1 p157 q157
        cases e157
        replace p157 := eq_true p157
        replace q157 := eq_true q157
        go_wp2
        repeat (go_quiet (fail); try go_wp2)
        go_ret
        exact ⟨by first | rfl | (simp; done) | (simp [*]; done), by repeat (first | exact Drawn0.refl _ | apply Drawn0.step)⟩
      ·rw [if_neg c6] at H
       exact absurd H (by simp)
     ·rw [if_neg c5] at H
      exact absurd H (by simp)
    ·rw [if_neg c4] at H
     have c4b0 : decide (x5_1 < (l0.length : Int)) = false := decide_eq_false c4
     clear c4
     obtain rfl := Option.some.inj H
     go_wp2
     repeat (go_quiet (fail); try go_wp2)
     go_ret
     exact ⟨by first | rfl | (simp; done) | (simp [*]; done), by repeat (first | exact Drawn0.refl _ | apply Drawn0.step)⟩
 ·rw [if_neg c3] at H
  have c3b0 : ((l0.length : Int) == (l1.length : Int)) = false := beq_eq_false_iff_ne.mpr c3
  have c3b1 : ((l0.length : Int) != (l1.length : Int)) = true := bne_iff_ne.mpr c3
  have c3b2 : (l0.length == l1.length) = false := by first | simpa using c3 | (simp at c3 ⊢; omega)
  obtain rfl := Option.some.inj H
  go_enter Tryz.func34, Tryz.ntmps34
  go_wp2
  repeat (go_quiet (fail); try go_wp2)
  go_ret
  exact ⟨by first | rfl | (simp; done) | (simp [*]; done), by repeat (first | exact Drawn0.refl _ | apply Drawn0.step)⟩
-- NOT PRINTED: function 35 (stolelaw0_SpoilNodes)
-- NOT PRINTED: function 36 (stolelaw8_awake)
-- NOT PRINTED: function 5 (stolelaw8_Pages)
-- NOT PRINTED: function 6 (stolelaw8_PageTexts)
-- NOT PRINTED: function 7 (stolelaw8_PageForms)
-- NOT PRINTED: function 8 (stolelaw8_PageRows)
-- NOT PRINTED: function 37 (audit_Alike)
-- NOT PRINTED: function 38 (stoleref5_Alike)
-- NOT PRINTED: function 181 (strings_NewReplacer)
-- NOT PRINTED: function 250 (atomic_LoadUint32)
-- NOT PRINTED: function 238 (atomic_Bool_Load)
-- NOT PRINTED: function 263 (race_Disable)
-- NOT PRINTED: function 264 (atomic_CompareAndSwapInt32)
-- NOT PRINTED: function 265 (race_Enable)
-- NOT PRINTED: function 266 (race_Acquire)
-- NOT PRINTED: function 269 (atomic_AddInt32)
-- NOT PRINTED: function 272 (sync_runtime_canSpin)
-- NOT PRINTED: function 273 (sync_runtime_doSpin)
-- NOT PRINTED: function 274 (sync_throw)
-- NOT PRINTED: function 275 (sync_runtime_nanotime)
-- NOT PRINTED: function 276 (sync_runtime_SemacquireMutex)
-- NOT PRINTED: function 267 (sync_Mutex_lockSlow)
-- NOT PRINTED: function 257 (sync_Mutex_Lock_257)
-- NOT PRINTED: function 251 (sync_Mutex_Lock_251)
-- NOT PRINTED: function 268 (race_ReleaseMerge)
-- NOT PRINTED: function 277 (sync_fatal)
-- NOT PRINTED: function 278 (sync_runtime_Semrelease)
-- NOT PRINTED: function 270 (sync_Mutex_unlockSlow)
-- NOT PRINTED: function 258 (sync_Mutex_Unlock_258)
-- NOT PRINTED: function 252 (sync_Mutex_Unlock_252)
-- NOT PRINTED: function 259 (atomic_StoreUint32)
-- NOT PRINTED: function 260 (atomic_b32)
-- NOT PRINTED: function 253 (atomic_Bool_Store)
-- NOT PRINTED: function 239 (sync_Once_doSlow)
-- NOT PRINTED: function 216 (sync_Once_Do)
-- NOT PRINTED: function 271 (strings_longestCommonSuffix)
-- NOT PRINTED: function 261 (strings_makeStringFinder)
-- NOT PRINTED: function 254 (strings_makeSingleStringReplacer)
-- NOT PRINTED: function 262 (strings_trieNode_add)
-- NOT PRINTED: function 255 (strings_makeGenericReplacer)
-- NOT PRINTED: function 240 (strings_Replacer_build)
-- NOT PRINTED: function 217 (strings_Replacer_buildOnce)
-- NOT PRINTED: function 182 (strings_Replacer_Replace)
-- NOT PRINTED: function 131 (url_drop)
-- NOT PRINTED: function 133 (url_of)
-- NOT PRINTED: function 134 (url_set_has)
-- NOT PRINTED: function 135 (utf_Lower)
-- NOT PRINTED: function 70 (url_Scheme)
-- NOT PRINTED: function 71 (elem_Attr)
-- NOT PRINTED: function 39 (audit_Schemes)
-- NOT PRINTED: function 139 (stoleref1_Lower)
-- NOT PRINTED: function 72 (stoleref1_Scheme)
-- NOT PRINTED: function 40 (stoleref5_Schemes)
-- NOT PRINTED: function 41 (stolelaw24_awake)
-- NOT PRINTED: function 9 (stolelaw24_Audits)
-- NOT PRINTED: function 10 (stolelaw24_AuditTexts)
-- NOT PRINTED: function 11 (stolelaw24_AuditAttrs)
-- NOT PRINTED: function 12 (stolelaw24_SchemeRows)
-- NOT PRINTED: function 13 (stolelaw24_AuditLong)
-- NOT PRINTED: function 187 (strings_explode)
-- NOT PRINTED: function 140 (strings_genSplit)
-- NOT PRINTED: function 74 (strings_Split)
-- NOT PRINTED: function 190 (stringslite_Cut)
-- NOT PRINTED: function 141 (strings_Cut)
-- NOT PRINTED: function 222 (utf_sign)
-- NOT PRINTED: function 191 (utf_Norm)
-- NOT PRINTED: function 223 (refs_written)
-- NOT PRINTED: function 192 (refs_Encode)
-- NOT PRINTED: function 193 (console_scheme)
-- NOT PRINTED: function 224 (url_allowed)
-- NOT PRINTED: function 225 (url_written)
-- NOT PRINTED: function 194 (url_Start)
-- NOT PRINTED: function 195 (url_Part)
-- NOT PRINTED: function 226 (jstr_bits)
-- NOT PRINTED: function 196 (jstr_Escape)
-- NOT PRINTED: function 197 (css_Filter)
-- NOT PRINTED: function 143 (console_failed)
-- NOT PRINTED: function 198 (console_skeleton)
-- NOT PRINTED: function 142 (console_commands)
-- NOT PRINTED: function 75 (console_line)
-- NOT PRINTED: function 42 (console_Run)
-- NOT PRINTED: function 43 (stolelaw25_awake)
-- NOT PRINTED: function 144 (stoleref1_Size)
-- NOT PRINTED: function 76 (stoleref1_Norm)
-- NOT PRINTED: function 77 (stoleref1_Encode)
-- NOT PRINTED: function 146 (stoleref1_Known)
-- NOT PRINTED: function 148 (stoleref1_in)
-- NOT PRINTED: function 147 (stoleref1_percent)
-- NOT PRINTED: function 79 (stoleref1_UrlStart)
-- NOT PRINTED: function 80 (stoleref1_UrlPart)
-- NOT PRINTED: function 81 (stoleref1_Escape)
-- NOT PRINTED: function 82 (stoleref1_Filter)
-- NOT PRINTED: function 83 (stolelaw25_skeleton)
-- NOT PRINTED: function 44 (stolelaw25_told)
-- NOT PRINTED: function 14 (stolelaw25_ConsoleRuns)
-- NOT PRINTED: function 15 (stolelaw25_ConsoleBegins)
-- NOT PRINTED: function 16 (stolelaw25_ConsoleMany)
-- NOT PRINTED: function 17 (stolelaw25_ConsoleForms)
end Go.Proofs.YtfmcdlbbbmeolaaGreatDoor.XK
end
section
namespace Go.Proofs.YtfmcdlbbbmeolaaGreatDoor.XK
theorem info39 : (Tryz.prog.info? 39).map (fun i => (i.zero, i.size, i.bytes)) = some (some (.agg #[(.string ⟨#[]⟩), (.string ⟨#[]⟩)]), 2, 32) := by kernel_rfl
end Go.Proofs.YtfmcdlbbbmeolaaGreatDoor.XK
end
section
namespace Go.Proofs.YtfmcdlbbbmeolaaGreatDoor.Base
open Go.RowKit Go.Proofs.YtfmcdlbbbmeolaaGreatDoorW.PrintWords Go.Proofs.YtfmcdlbbbmeolaaGreatDoorW.PrintLast Go.Proofs.YtfmcdlbbbmeolaaGreatDoorW.PrintMore
section
variable {α β : Type} {r : α} {s : β}
theorem Ev.pos {c : Prop} [Decidable c] {a b : Nat → Option α} (h : c) (H : Ev a r) : Ev (fun k => if c then a k else b k) r := by
  simpa only [if_pos h] using H
theorem Ev.neg {c : Prop} [Decidable c] {a b : Nat → Option α} (h : ¬ c) (H : Ev b r) : Ev (fun k => if c then a k else b k) r := by
  simpa only [if_neg h] using H
theorem Ev.bindC {o : Option β} {f : Nat → β → Option α} (h : o = some s) (H : Ev (fun k => f k s) r) : Ev (fun k => o.bind (f k)) r := by
  subst h; exact H
theorem Ev.ofSome {o : Option α} (h : o = some r) : Ev (fun _ => o) r := ⟨0, fun _ _ => h⟩
end
theorem bt_list (s : ByteArray) (i : Nat) (h : i < s.size) : bt s (i : Int) = (((s.data.toList.getD i 0).toNat : Nat) : Int) := by
  have hl : i < s.data.toList.length := by rw [data_length]; exact h
  simp only [bt, Int.toNat_natCast, h, dite_true, List.getD_eq_getElem?_getD, List.getElem?_eq_getElem hl, Option.getD_some, Array.getElem_toList]
  rfl
theorem wrap_next {i n : Nat} (h : i < n) (hn : n ≤ 4611686018427387904) : wrap64 ((i : Int) + 1) = ((i + 1 : Nat) : Int) := by
  unfold wrap64; omega
theorem size_append (a b : ByteArray) : (a ++ b).size = a.size + b.size := ByteArray.size_append
theorem data_append (a b : ByteArray) : (a ++ b).data.toList = a.data.toList ++ b.data.toList := by
  rw [ByteArray.data_append, Array.toList_append]
theorem ext_list {a b : ByteArray} (h : a.data.toList = b.data.toList) : a = b := by
  rcases a with ⟨⟨a⟩⟩; rcases b with ⟨⟨b⟩⟩; simp only at h; rw [h]
theorem list_eq (a : ByteArray) : a.toList = a.data.toList := ByteArray.toList_eq a
end Go.Proofs.YtfmcdlbbbmeolaaGreatDoor.Base
end
section
namespace Go.Proofs.YtfmcdlbbbmeolaaGreatDoor.Tk
open Go.RowKit Go.Proofs.YtfmcdlbbbmeolaaGreatDoorW.PrintWords Go.Proofs.YtfmcdlbbbmeolaaGreatDoorW.PrintLast Go.Proofs.YtfmcdlbbbmeolaaGreatDoorW.PrintMore
open Go.Proofs.YtfmcdlbbbmeolaaGreatDoor.XK (elem_Kind.f elem_Kind.j0 elem_Kind.j1 elem_Kind.calls)
open Go.Proofs.YtfmcdlbbbmeolaaGreatDoor.Refs (lowN lowByte_calls)
attribute [local go_sem ↓] Go.wp_at_zero Go.wp_at_succ
set_option linter.unusedVariables false
set_option linter.unusedSimpArgs false
set_option maxRecDepth 100000
def letN (c : Nat) : Bool := decide (97 ≤ lowN c) && decide (lowN c ≤ 122)
set_option maxHeartbeats 1600000 in
theorem letter_calls (c : Nat) (w : World) : Calls Tryz.prog 132 #[.int .u8 c] w fun e w' => e = .returned (.bool (letN c)) ∧ w = w' := by
  have HL := Aside0.mk (fun w => lowByte_calls c w)
  obtain ⟨m, hm⟩ : ∃ m, lowN c = m := ⟨_, rfl⟩
  rw [hm] at HL
  unfold letN
  rw [hm]
  clear hm
  by_cases h1 : 97 ≤ m
  · have d1 : decide ((97 : Int) ≤ (m : Int)) = true := decide_eq_true (by omega)
    have e1 : decide (97 ≤ m) = true := decide_eq_true h1
    rw [e1, Bool.true_and]
    by_cases h2 : m ≤ 122
    · have d2 : decide ((m : Int) ≤ 122) = true := decide_eq_true (by omega)
      have e2 : decide (m ≤ 122) = true := decide_eq_true h2
      rw [e2]
      clear h1 h2 e1 e2
      go_enter Tryz.func132, Tryz.ntmps132
      go_wp2_with (go_at_call 183; refine (HL.out _).mono ?_; rintro e w2 ⟨rfl, rfl⟩)
      go_ret
      exact ⟨rfl, rfl⟩
    · have d2 : decide ((m : Int) ≤ 122) = false := decide_eq_false (by omega)
      have e2 : decide (m ≤ 122) = false := decide_eq_false h2
      rw [e2]
      clear h1 h2 e1 e2
      go_enter Tryz.func132, Tryz.ntmps132
      go_wp2_with (go_at_call 183; refine (HL.out _).mono ?_; rintro e w2 ⟨rfl, rfl⟩)
      go_ret
      exact ⟨rfl, rfl⟩
  · have d1 : decide ((97 : Int) ≤ (m : Int)) = false := decide_eq_false (by omega)
    have e1 : decide (97 ≤ m) = false := decide_eq_false h1
    rw [e1, Bool.false_and]
    clear h1 e1
    go_enter Tryz.func132, Tryz.ntmps132
    go_wp2_with (go_at_call 183; refine (HL.out _).mono ?_; rintro e w2 ⟨rfl, rfl⟩)
    go_ret
    exact ⟨rfl, rfl⟩
def blankN (c : Nat) : Bool := c == 32 || (decide (9 ≤ c) && (decide (c ≤ 13) && c != 11))
set_option maxHeartbeats 1600000 in
theorem blank_calls (c : Nat) (w : World) : Calls Tryz.prog 156 #[.int .u8 c] w fun e w' => e = .returned (.bool (blankN c)) ∧ w = w' := by
  unfold blankN
  by_cases h1 : c = 32
  · subst h1
    go_enter Tryz.func156, Tryz.ntmps156
    go_wp2
    go_ret
    exact ⟨rfl, rfl⟩
  have d1 : ((c : Int) == 32) = false := by rw [beq_eq_false_iff_ne]; omega
  have e1 : (c == 32) = false := by simpa using h1
  rw [e1, Bool.false_or]
  by_cases h2 : 9 ≤ c
  · have d2 : decide ((9 : Int) ≤ (c : Int)) = true := decide_eq_true (by omega)
    rw [decide_eq_true h2, Bool.true_and]
    by_cases h3 : c ≤ 13
    · have d3 : decide ((c : Int) ≤ 13) = true := decide_eq_true (by omega)
      rw [decide_eq_true h3, Bool.true_and]
      have e4 : ((c : Int) != 11) = (c != 11) := by
        by_cases h4 : c = 11
        · subst h4; rfl
        · rw [show (c != 11) = true by simpa using h4, bne_iff_ne]; omega
      have E4 := Aside0.mk e4
      clear h1 h2 h3 e1 e4
      go_enter Tryz.func156, Tryz.ntmps156
      go_wp2
      go_ret
      exact ⟨by first | rfl | (rw [E4.out]; rfl), rfl⟩
    · have d3 : decide ((c : Int) ≤ 13) = false := decide_eq_false (by omega)
      rw [decide_eq_false h3, Bool.false_and]
      clear h1 h2 h3 e1
      go_enter Tryz.func156, Tryz.ntmps156
      go_wp2
      go_ret
      exact ⟨rfl, rfl⟩
  · have d2 : decide ((9 : Int) ≤ (c : Int)) = false := decide_eq_false (by omega)
    rw [decide_eq_false h2, Bool.false_and]
    clear h1 h2 e1
    go_enter Tryz.func156, Tryz.ntmps156
    go_wp2
    go_ret
    exact ⟨rfl, rfl⟩
theorem ex_ite {α : Type} {c : Prop} [Decidable c] {a b : Option α} (h1 : ∃ v, a = some v) (h2 : ∃ v, b = some v) : ∃ v, (if c then a else b) = some v := by
  by_cases h : c
  · rw [if_pos h]; exact h1
  · rw [if_neg h]; exact h2
theorem kind_some (s : ByteArray) : ∃ v, elem_Kind.f 3 s = some v := by
  unfold elem_Kind.f
  simp only [elem_Kind.j0, elem_Kind.j1]
  repeat' first | exact ⟨_, rfl⟩ | refine ex_ite ?_ ?_
def kindOf (s : ByteArray) : Int := (elem_Kind.f 3 s).getD 0
theorem kind_def (s : ByteArray) : elem_Kind.f 3 s = some (kindOf s) := by
  obtain ⟨v, hv⟩ := kind_some s
  unfold kindOf; rw [hv]; rfl
theorem kind_calls (s : ByteArray) (w : World) : Calls Tryz.prog 167 #[.string s] w fun e w' => e = .returned (.int .i64 (kindOf s)) ∧ Drawn0 w w' := elem_Kind.calls 3 s _ w (kind_def s)
theorem one_string (w : World) (m : Nat) (hm : m < 256) : (convert 37 9 (.slice (some ⟨w.heap.size, 0, none⟩) 1 1)).run Tryz.prog (w.alloc (.cells #[.int .u8 (m : Int)] 5)) = .ok (.string ⟨#[UInt8.ofNat m]⟩) (w.alloc (.cells #[.int .u8 (m : Int)] 5)) := by
  have h := run_convert_bytes_arg (P := Tryz.prog) (w.alloc (.cells #[.int .u8 (m : Int)] 5)) 37 5 Tryz.underlying37 Tryz.underlying5 w.heap.size 0 1 1 [(m : Int)] rfl (fun i hi => by
    obtain rfl : i = 0 := by omega
    exact (blk_cell (heap_alloc_new w _) 0).trans rfl) 9 Tryz.underlying9
  rw [h]
  have e : strOfNums [(m : Int)] = ⟨#[UInt8.ofNat m]⟩ := by
    have e2 := strOfNums_data [(m : Int)]
    exact Go.Proofs.YtfmcdlbbbmeolaaGreatDoor.Base.ext_list (by rw [e2]; rfl)
  rw [e]
def moreS (nm : ByteArray) (c : Nat) : ByteArray := if 32 ≤ nm.size then nm else nm ++ ⟨#[UInt8.ofNat (lowN c)]⟩
set_option maxHeartbeats 1600000 in
theorem more_calls (nm : ByteArray) (c : Nat) (w : World) (hc : c < 256) : Calls Tryz.prog 152 #[.string nm, .int .u8 c] w fun e w' => e = .returned (.string (moreS nm c)) ∧ Below w.heap.size w w' := by
  by_cases h1 : 32 ≤ nm.size
  · have d1 : decide ((32 : Int) ≤ (nm.size : Int)) = true := decide_eq_true (by omega)
    have HM := Aside0.mk (show moreS nm c = nm by unfold moreS; rw [if_pos h1])
    clear h1
    go_enter Tryz.func152, Tryz.ntmps152
    go_wp2
    go_ret
    exact ⟨by rw [HM.out]; rfl, Below.refl _ _⟩
  · have d1 : decide ((32 : Int) ≤ (nm.size : Int)) = false := decide_eq_false (by omega)
    have hl : lowN c < 256 := by unfold lowN; split <;> omega
    have hs : nm.size + 1 ≤ 9223372036854775807 := by omega
    have HM := Aside0.mk (show moreS nm c = nm ++ ⟨#[UInt8.ofNat (lowN c)]⟩ by unfold moreS; rw [if_neg h1])
    have HL := Aside0.mk (fun w => lowByte_calls c w)
    obtain ⟨m, hm⟩ : ∃ m, lowN c = m := ⟨_, rfl⟩
    rw [hm] at HL HM hl
    have HLt := Aside0.mk hl
    have hcv := one_string w m hl
    clear h1 hm hl hc
    go_enter Tryz.func152, Tryz.ntmps152
    go_wp2_with (go_at_call 183; refine (HL.out _).mono ?_; rintro e w2 ⟨rfl, rfl⟩)
    go_ret
    exact ⟨by rw [HM.out]; rfl, (Below.refl _ _).alloc (Nat.le_refl _) _⟩
end Go.Proofs.YtfmcdlbbbmeolaaGreatDoor.Tk
end
