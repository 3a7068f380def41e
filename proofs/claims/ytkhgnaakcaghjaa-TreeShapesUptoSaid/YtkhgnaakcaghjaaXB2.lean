/- Laid by xprint.py, a program of this session over the kit's print: for each Go function one Lean function of the same answers, and the walk that shows it. -/
import Derived.Test.YtkhgnaakcaghjaaXB0
import Derived.Test.YtkhgnaakcaghjaaXB1
namespace Go.Proofs.Ytkhgnaakcaghjaa.XB
open Go.RowKit Go.Proofs.Ytkhgnaakcaghjaa.Ext Go.Proofs.Ytkhgnaakcaghjaa.XA Go.Proofs.YtkhgnaakcaghjaaW.PrintWords Go.Proofs.YtkhgnaakcaghjaaW.PrintLast Go.Proofs.YtkhgnaakcaghjaaW.PrintMore
attribute [local go_sem] max2_int min2_int max_two min_two max_three min_three max_four min_four   -- for this text's walks alone
set_option linter.unusedVariables false
set_option linter.unusedSimpArgs false

/-! ### stolelaw7_TreeShapes: function 4 -/
mutual
def stolelaw7_TreeShapes.j0 : Nat → List (S41) → List (S38) → Bool → Option (Bool)
 | 0, _, _, _ => none
 | k + 1, x0, x3, x43 => if x43 = true then (some false) else (if 0 ≤ (x3.length : Int) then (if ((x3.length : Int) : Int).toNat ≤ 35184372088832 then (stolelaw7_TreeShapes.l0 k x0 x3 (List.replicate ((x3.length : Int) : Int).toNat 0) (⟨#[]⟩ : ByteArray) 1) else (none)) else (none))
def stolelaw7_TreeShapes.l0 : Nat → List (S41) → List (S38) → List Int → ByteArray → Int → Option (Bool)
 | 0, _, _, _, _, _ => none
 | k + 1, x0, x3, x5, x6, x7 => if x7 < (x3.length : Int) then (if 0 ≤ x7 then (if ((rd_T38 x3 x7).f4) < 0 then (stolelaw7_TreeShapes.j2 k x0 x3 x5 x6 x7 ((rd_T38 x3 x7).f4) true) else (if ((rd_T38 x3 x7).f4) ≥ x7 then (stolelaw7_TreeShapes.j2 k x0 x3 x5 x6 x7 ((rd_T38 x3 x7).f4) true) else (if 0 ≤ ((rd_T38 x3 x7).f4) then (if ((rd_T38 x3 x7).f4) < (x3.length : Int) then (if ((rd_T38 x3 ((rd_T38 x3 x7).f4)).f0) = 0 then (stolelaw7_TreeShapes.j2 k x0 x3 x5 x6 x7 ((rd_T38 x3 x7).f4) (((rd_T38 x3 x7).f0) == 0)) else (if ((rd_T38 x3 ((rd_T38 x3 x7).f4)).f0) = 1 then (stolelaw7_TreeShapes.j2 k x0 x3 x5 x6 x7 ((rd_T38 x3 x7).f4) (((rd_T38 x3 x7).f0) == 0)) else (stolelaw7_TreeShapes.j2 k x0 x3 x5 x6 x7 ((rd_T38 x3 x7).f4) true))) else (none)) else (none)))) else (none)) else (stolelaw7_TreeShapes.l1 k x0 x3 x6 (⟨#[]⟩ : ByteArray) 0 0 0)
def stolelaw7_TreeShapes.j2 : Nat → List (S41) → List (S38) → List Int → ByteArray → Int → Int → Bool → Option (Bool)
 | 0, _, _, _, _, _, _, _ => none
 | k + 1, x0, x3, x5, x6, x7, x8, x88 => if x88 = true then (some false) else (if 0 ≤ x8 then (if x8 < (x5.length : Int) then (if 0 ≤ x7 then (if x7 < (x5.length : Int) then ((some (x5.set (x7 : Int).toNat (wrap64 ((rd x5 x8) + 1)) : List Int)).bind fun y138 => (if (rd y138 x7) > 33 then (stolelaw7_TreeShapes.j3 k x0 x3 y138 x6 x7 true) else (if x7 < (x3.length : Int) then (if ((rd_T38 x3 x7).f0) = 2 then (if 0 ≤ (wrap64 (x7 - 1)) then (if (wrap64 (x7 - 1)) < (x3.length : Int) then (if ((rd_T38 x3 (wrap64 (x7 - 1))).f0) = 2 then (stolelaw7_TreeShapes.j3 k x0 x3 y138 x6 x7 (((rd_T38 x3 (wrap64 (x7 - 1))).f4) == x8)) else (stolelaw7_TreeShapes.j3 k x0 x3 y138 x6 x7 false)) else (none)) else (none)) else (stolelaw7_TreeShapes.j3 k x0 x3 y138 x6 x7 false)) else (none)))) else (none)) else (none)) else (none)) else (none))
def stolelaw7_TreeShapes.j3 : Nat → List (S41) → List (S38) → List Int → ByteArray → Int → Bool → Option (Bool)
 | 0, _, _, _, _, _, _ => none
 | k + 1, x0, x3, x5, x6, x7, x128 => if x128 = true then (some false) else (if 0 ≤ x7 then (if x7 < (x3.length : Int) then (if ((rd_T38 x3 x7).f0) = 2 then (if x6.size + ((rd_T38 x3 x7).f2).size ≤ 9223372036854775807 then (stolelaw7_TreeShapes.l0 k x0 x3 x5 (x6 ++ ((rd_T38 x3 x7).f2)) (wrap64 (x7 + 1))) else (none)) else (stolelaw7_TreeShapes.l0 k x0 x3 x5 x6 (wrap64 (x7 + 1)))) else (none)) else (none))
def stolelaw7_TreeShapes.l1 : Nat → List (S41) → List (S38) → ByteArray → ByteArray → Int → Int → Int → Option (Bool)
 | 0, _, _, _, _, _, _, _ => none
 | k + 1, x0, x3, x6, x9, x10, x11, x12 => if x12 < (x0.length : Int) then (if 0 ≤ x12 then (if ((rd_T41 x0 x12).f0) = 0 then (if x9.size + ((rd_T41 x0 x12).f2).size ≤ 9223372036854775807 then (if ((rd_T41 x0 x12).f0) = 1 then (stolelaw7_TreeShapes.l1 k x0 x3 x6 (x9 ++ ((rd_T41 x0 x12).f2)) (wrap64 (x10 + 1)) x11 (wrap64 (x12 + 1))) else (stolelaw7_TreeShapes.l1 k x0 x3 x6 (x9 ++ ((rd_T41 x0 x12).f2)) x10 x11 (wrap64 (x12 + 1)))) else (none)) else (if ((rd_T41 x0 x12).f0) = 1 then (stolelaw7_TreeShapes.l1 k x0 x3 x6 x9 (wrap64 (x10 + 1)) x11 (wrap64 (x12 + 1))) else (stolelaw7_TreeShapes.l1 k x0 x3 x6 x9 x10 x11 (wrap64 (x12 + 1))))) else (none)) else (stolelaw7_TreeShapes.l2 k x3 x6 x9 x10 x11 0)
def stolelaw7_TreeShapes.l2 : Nat → List (S38) → ByteArray → ByteArray → Int → Int → Int → Option (Bool)
 | 0, _, _, _, _, _, _ => none
 | k + 1, x3, x6, x9, x10, x11, x13 => if x13 < (x3.length : Int) then (if 0 ≤ x13 then (if ((rd_T38 x3 x13).f0) = 1 then (stolelaw7_TreeShapes.l2 k x3 x6 x9 x10 (wrap64 (x11 + 1)) (wrap64 (x13 + 1))) else (stolelaw7_TreeShapes.l2 k x3 x6 x9 x10 x11 (wrap64 (x13 + 1)))) else (none)) else (if x6.toList = x9.toList then (some (x10 == x11)) else (some false))
end
def stolelaw7_TreeShapes.f (k : Nat) (l0 : List (S41)) : Option (Bool) := (stolelaw7_awake.f).bind fun t121 => (if t121 = true then ((tree_Build.f l0).bind fun bt122 => ((stolelaw0_Num.f bt122.2).bind fun t126 => (if t126 = 0 then (if (bt122.1.length : Int) = 0 then (stolelaw7_TreeShapes.j0 k l0 bt122.1 true) else (if 0 < (bt122.1.length : Int) then (if ((rd_T38 bt122.1 0).f0) = 0 then (stolelaw7_TreeShapes.j0 k l0 bt122.1 (((rd_T38 bt122.1 0).f4) != (-1))) else (stolelaw7_TreeShapes.j0 k l0 bt122.1 true)) else (none))) else (some ((bt122.1.length : Int) == 0))))) else (some false))
theorem stolelaw7_TreeShapes.mono_l : ∀ k, (∀ y0 y1 y2, LeO (stolelaw7_TreeShapes.j0 k y0 y1 y2) (stolelaw7_TreeShapes.j0 (k + 1) y0 y1 y2)) ∧ (∀ y0 y1 y2 y3 y4, LeO (stolelaw7_TreeShapes.l0 k y0 y1 y2 y3 y4) (stolelaw7_TreeShapes.l0 (k + 1) y0 y1 y2 y3 y4)) ∧ (∀ y0 y1 y2 y3 y4 y5 y6, LeO (stolelaw7_TreeShapes.j2 k y0 y1 y2 y3 y4 y5 y6) (stolelaw7_TreeShapes.j2 (k + 1) y0 y1 y2 y3 y4 y5 y6)) ∧ (∀ y0 y1 y2 y3 y4 y5, LeO (stolelaw7_TreeShapes.j3 k y0 y1 y2 y3 y4 y5) (stolelaw7_TreeShapes.j3 (k + 1) y0 y1 y2 y3 y4 y5)) ∧ (∀ y0 y1 y2 y3 y4 y5 y6, LeO (stolelaw7_TreeShapes.l1 k y0 y1 y2 y3 y4 y5 y6) (stolelaw7_TreeShapes.l1 (k + 1) y0 y1 y2 y3 y4 y5 y6)) ∧ (∀ y0 y1 y2 y3 y4 y5, LeO (stolelaw7_TreeShapes.l2 k y0 y1 y2 y3 y4 y5) (stolelaw7_TreeShapes.l2 (k + 1) y0 y1 y2 y3 y4 y5))
 | 0 => ⟨fun _ _ _ r h => by simp [stolelaw7_TreeShapes.j0] at h, fun _ _ _ _ _ r h => by simp [stolelaw7_TreeShapes.l0] at h, fun _ _ _ _ _ _ _ r h => by simp [stolelaw7_TreeShapes.j2] at h, fun _ _ _ _ _ _ r h => by simp [stolelaw7_TreeShapes.j3] at h, fun _ _ _ _ _ _ _ r h => by simp [stolelaw7_TreeShapes.l1] at h, fun _ _ _ _ _ _ r h => by simp [stolelaw7_TreeShapes.l2] at h⟩
 | k + 1 => by
  obtain ⟨ih0, ih1, ih2, ih3, ih4, ih5⟩ := stolelaw7_TreeShapes.mono_l k
  refine ⟨?_, ?_, ?_, ?_, ?_, ?_⟩
  ·intro y0 y1 y2
   unfold stolelaw7_TreeShapes.j0
   repeat' first
   | (with_reducible exact ih0 _ _ _)
   | (with_reducible exact ih1 _ _ _ _ _)
   | (with_reducible exact ih2 _ _ _ _ _ _ _)
   | (with_reducible exact ih3 _ _ _ _ _ _)
   | (with_reducible exact ih4 _ _ _ _ _ _ _)
   | (with_reducible exact ih5 _ _ _ _ _ _)
   | (with_reducible exact LeO.refl _)
   | (with_reducible exact LeO.none _)
   | (with_reducible refine LeO.ite ?_ ?_)
   | (with_reducible refine LeO.bind ?_ (fun _ => ?_))
   | exact ih0 _ _ _
   | exact ih1 _ _ _ _ _
   | exact ih2 _ _ _ _ _ _ _
   | exact ih3 _ _ _ _ _ _
   | exact ih4 _ _ _ _ _ _ _
   | exact ih5 _ _ _ _ _ _
   | exact LeO.none _
   | refine LeO.ite ?_ ?_
   | refine LeO.bind ?_ (fun _ => ?_)
  ·intro y0 y1 y2 y3 y4
   unfold stolelaw7_TreeShapes.l0
   repeat' first
   | (with_reducible exact ih0 _ _ _)
   | (with_reducible exact ih1 _ _ _ _ _)
   | (with_reducible exact ih2 _ _ _ _ _ _ _)
   | (with_reducible exact ih3 _ _ _ _ _ _)
   | (with_reducible exact ih4 _ _ _ _ _ _ _)
   | (with_reducible exact ih5 _ _ _ _ _ _)
   | (with_reducible exact LeO.refl _)
   | (with_reducible exact LeO.none _)
   | (with_reducible refine LeO.ite ?_ ?_)
   | (with_reducible refine LeO.bind ?_ (fun _ => ?_))
   | exact ih0 _ _ _
   | exact ih1 _ _ _ _ _
   | exact ih2 _ _ _ _ _ _ _
   | exact ih3 _ _ _ _ _ _
   | exact ih4 _ _ _ _ _ _ _
   | exact ih5 _ _ _ _ _ _
   | exact LeO.none _
   | refine LeO.ite ?_ ?_
   | refine LeO.bind ?_ (fun _ => ?_)
  ·intro y0 y1 y2 y3 y4 y5 y6
   unfold stolelaw7_TreeShapes.j2
   repeat' first
   | (with_reducible exact ih0 _ _ _)
   | (with_reducible exact ih1 _ _ _ _ _)
   | (with_reducible exact ih2 _ _ _ _ _ _ _)
   | (with_reducible exact ih3 _ _ _ _ _ _)
   | (with_reducible exact ih4 _ _ _ _ _ _ _)
   | (with_reducible exact ih5 _ _ _ _ _ _)
   | (with_reducible exact LeO.refl _)
   | (with_reducible exact LeO.none _)
   | (with_reducible refine LeO.ite ?_ ?_)
   | (with_reducible refine LeO.bind ?_ (fun _ => ?_))
   | exact ih0 _ _ _
   | exact ih1 _ _ _ _ _
   | exact ih2 _ _ _ _ _ _ _
   | exact ih3 _ _ _ _ _ _
   | exact ih4 _ _ _ _ _ _ _
   | exact ih5 _ _ _ _ _ _
   | exact LeO.none _
   | refine LeO.ite ?_ ?_
   | refine LeO.bind ?_ (fun _ => ?_)
  ·intro y0 y1 y2 y3 y4 y5
   unfold stolelaw7_TreeShapes.j3
   repeat' first
   | (with_reducible exact ih0 _ _ _)
   | (with_reducible exact ih1 _ _ _ _ _)
   | (with_reducible exact ih2 _ _ _ _ _ _ _)
   | (with_reducible exact ih3 _ _ _ _ _ _)
   | (with_reducible exact ih4 _ _ _ _ _ _ _)
   | (with_reducible exact ih5 _ _ _ _ _ _)
   | (with_reducible exact LeO.refl _)
   | (with_reducible exact LeO.none _)
   | (with_reducible refine LeO.ite ?_ ?_)
   | (with_reducible refine LeO.bind ?_ (fun _ => ?_))
   | exact ih0 _ _ _
   | exact ih1 _ _ _ _ _
   | exact ih2 _ _ _ _ _ _ _
   | exact ih3 _ _ _ _ _ _
   | exact ih4 _ _ _ _ _ _ _
   | exact ih5 _ _ _ _ _ _
   | exact LeO.none _
   | refine LeO.ite ?_ ?_
   | refine LeO.bind ?_ (fun _ => ?_)
  ·intro y0 y1 y2 y3 y4 y5 y6
   unfold stolelaw7_TreeShapes.l1
   repeat' first
   | (with_reducible exact ih0 _ _ _)
   | (with_reducible exact ih1 _ _ _ _ _)
   | (with_reducible exact ih2 _ _ _ _ _ _ _)
   | (with_reducible exact ih3 _ _ _ _ _ _)
   | (with_reducible exact ih4 _ _ _ _ _ _ _)
   | (with_reducible exact ih5 _ _ _ _ _ _)
   | (with_reducible exact LeO.refl _)
   | (with_reducible exact LeO.none _)
   | (with_reducible refine LeO.ite ?_ ?_)
   | (with_reducible refine LeO.bind ?_ (fun _ => ?_))
   | exact ih0 _ _ _
   | exact ih1 _ _ _ _ _
   | exact ih2 _ _ _ _ _ _ _
   | exact ih3 _ _ _ _ _ _
   | exact ih4 _ _ _ _ _ _ _
   | exact ih5 _ _ _ _ _ _
   | exact LeO.none _
   | refine LeO.ite ?_ ?_
   | refine LeO.bind ?_ (fun _ => ?_)
  ·intro y0 y1 y2 y3 y4 y5
   unfold stolelaw7_TreeShapes.l2
   repeat' first
   | (with_reducible exact ih0 _ _ _)
   | (with_reducible exact ih1 _ _ _ _ _)
   | (with_reducible exact ih2 _ _ _ _ _ _ _)
   | (with_reducible exact ih3 _ _ _ _ _ _)
   | (with_reducible exact ih4 _ _ _ _ _ _ _)
   | (with_reducible exact ih5 _ _ _ _ _ _)
   | (with_reducible exact LeO.refl _)
   | (with_reducible exact LeO.none _)
   | (with_reducible refine LeO.ite ?_ ?_)
   | (with_reducible refine LeO.bind ?_ (fun _ => ?_))
   | exact ih0 _ _ _
   | exact ih1 _ _ _ _ _
   | exact ih2 _ _ _ _ _ _ _
   | exact ih3 _ _ _ _ _ _
   | exact ih4 _ _ _ _ _ _ _
   | exact ih5 _ _ _ _ _ _
   | exact LeO.none _
   | refine LeO.ite ?_ ?_
   | refine LeO.bind ?_ (fun _ => ?_)
theorem stolelaw7_TreeShapes.mono : ∀ a0 k, LeO (stolelaw7_TreeShapes.f k a0) (stolelaw7_TreeShapes.f (k + 1) a0) := by
 intro a0 k
 obtain ⟨ih0, ih1, ih2, ih3, ih4, ih5⟩ := stolelaw7_TreeShapes.mono_l k
 unfold stolelaw7_TreeShapes.f
 repeat' first
   | (with_reducible exact ih0 _ _ _)
   | (with_reducible exact ih1 _ _ _ _ _)
   | (with_reducible exact ih2 _ _ _ _ _ _ _)
   | (with_reducible exact ih3 _ _ _ _ _ _)
   | (with_reducible exact ih4 _ _ _ _ _ _ _)
   | (with_reducible exact ih5 _ _ _ _ _ _)
   | (with_reducible exact LeO.refl _)
   | (with_reducible exact LeO.none _)
   | (with_reducible refine LeO.ite ?_ ?_)
   | (with_reducible refine LeO.bind ?_ (fun _ => ?_))
   | exact ih0 _ _ _
   | exact ih1 _ _ _ _ _
   | exact ih2 _ _ _ _ _ _ _
   | exact ih3 _ _ _ _ _ _
   | exact ih4 _ _ _ _ _ _ _
   | exact ih5 _ _ _ _ _ _
   | exact LeO.none _
   | refine LeO.ite ?_ ?_
   | refine LeO.bind ?_ (fun _ => ?_)
set_option maxHeartbeats 8000000 in
set_option maxRecDepth 100000 in
theorem stolelaw7_TreeShapes.calls (k : Nat) (A0 : Option Addr) (c0 : Nat) (l0 : List (S41)) (r : Bool) (w : World) (hr0 : Kd.C k41 w A0 l0.length l0) (hc0 : l0.length ≤ c0) (h : stolelaw7_TreeShapes.f k l0 = some r) :
  Calls Try.prog 4 #[.slice A0 l0.length c0] w fun e w' => e = .returned (.bool r) ∧ Below w.heap.size w w' := by
 have HR0 := Aside0.mk hr0
 have HC0 := Aside0.mk hc0
 clear hr0 hc0
 have HB := Aside0.mk (Below.refl w.heap.size w)
 have H : ((stolelaw7_awake.f).bind fun t121 => (if t121 = true then ((tree_Build.f l0).bind fun bt122 => ((stolelaw0_Num.f bt122.2).bind fun t126 => (if t126 = 0 then (if (bt122.1.length : Int) = 0 then (stolelaw7_TreeShapes.j0 k l0 bt122.1 true) else (if 0 < (bt122.1.length : Int) then (if ((rd_T38 bt122.1 0).f0) = 0 then (stolelaw7_TreeShapes.j0 k l0 bt122.1 (((rd_T38 bt122.1 0).f4) != (-1))) else (stolelaw7_TreeShapes.j0 k l0 bt122.1 true)) else (none))) else (some ((bt122.1.length : Int) == 0))))) else (some false))) = some r := h
 clear h
 replace H := Option.bind_eq_some_iff.mp H
 obtain ⟨t121, A20, H⟩ := H
 replace H : (if t121 = true then ((tree_Build.f l0).bind fun bt122 => ((stolelaw0_Num.f bt122.2).bind fun t126 => (if t126 = 0 then (if (bt122.1.length : Int) = 0 then (stolelaw7_TreeShapes.j0 k l0 bt122.1 true) else (if 0 < (bt122.1.length : Int) then (if ((rd_T38 bt122.1 0).f0) = 0 then (stolelaw7_TreeShapes.j0 k l0 bt122.1 (((rd_T38 bt122.1 0).f4) != (-1))) else (stolelaw7_TreeShapes.j0 k l0 bt122.1 true)) else (none))) else (some ((bt122.1.length : Int) == 0))))) else (some false)) = some r := H
 have A2 := Aside0.mk A20
 clear A20
 by_cases c3 : t121 = true
 ·subst c3
  have H1 : ((tree_Build.f l0).bind fun bt122 => ((stolelaw0_Num.f bt122.2).bind fun t126 => (if t126 = 0 then (if (bt122.1.length : Int) = 0 then (stolelaw7_TreeShapes.j0 k l0 bt122.1 true) else (if 0 < (bt122.1.length : Int) then (if ((rd_T38 bt122.1 0).f0) = 0 then (stolelaw7_TreeShapes.j0 k l0 bt122.1 (((rd_T38 bt122.1 0).f4) != (-1))) else (stolelaw7_TreeShapes.j0 k l0 bt122.1 true)) else (none))) else (some ((bt122.1.length : Int) == 0))))) = some r := by rw [if_pos rfl] at H; exact H
  clear H
  have H := H1
  clear H1
  replace H := Option.bind_eq_some_iff.mp H
  obtain ⟨⟨t122, t123⟩, A40, H⟩ := H
  replace H : ((stolelaw0_Num.f t123).bind fun t126 => (if t126 = 0 then (if (t122.length : Int) = 0 then (stolelaw7_TreeShapes.j0 k l0 t122 true) else (if 0 < (t122.length : Int) then (if ((rd_T38 t122 0).f0) = 0 then (stolelaw7_TreeShapes.j0 k l0 t122 (((rd_T38 t122 0).f4) != (-1))) else (stolelaw7_TreeShapes.j0 k l0 t122 true)) else (none))) else (some ((t122.length : Int) == 0)))) = some r := H
  have A4 := Aside0.mk A40
  clear A40
  replace H := Option.bind_eq_some_iff.mp H
  obtain ⟨t126, A50, H⟩ := H
  replace H : (if t126 = 0 then (if (t122.length : Int) = 0 then (stolelaw7_TreeShapes.j0 k l0 t122 true) else (if 0 < (t122.length : Int) then (if ((rd_T38 t122 0).f0) = 0 then (stolelaw7_TreeShapes.j0 k l0 t122 (((rd_T38 t122 0).f4) != (-1))) else (stolelaw7_TreeShapes.j0 k l0 t122 true)) else (none))) else (some ((t122.length : Int) == 0))) = some r := H
  have A5 := Aside0.mk A50
  clear A50
  by_cases c6 : t126 = 0
  ·rw [if_pos c6] at H
   have c6b0 : (t126 == 0) = true := beq_iff_eq.mpr c6
   have c6b1 : (t126 != 0) = false := bne_eq_false_iff_eq.mpr c6
   clear c6
   have HC7 := Aside0.mk H
   clear H
   go_enter Try.func4, Try.ntmps4
   go_upto_region 6 with (first | ((with_reducible refine gate_callee (f := 15) rfl ?_); refine goesL_ (some 14) rfl rfl Try.func15 (by kernel_rfl) rfl #[] rfl (by (try simp only [List.map_toArray, List.map_cons, List.map_nil]); first | done | rfl | (simp only [List.length_drop, List.length_take]; rfl)) ?_; (with_reducible refine (stolelaw7_awake.calls  true _ A2.out).mono ?_); rintro e w8 ⟨rfl, hb⟩; refine ⟨_, rfl, ?_⟩; have n0_ := Aside0.mk (below_step (by repeat (first | (with_reducible first | exact HB.out | apply below_alloc | apply pw_below_drewN | apply below_drew1) | exact HB.out)) hb); clear HB; have HB := n0_; clear n0_; (try clear hb); (try clear hb2); (try clear hk); (try clear hi)) | ((with_reducible refine gate_callee (f := 9) rfl ?_); refine goesL_ (some 18) rfl rfl Try.func9 (by kernel_rfl) rfl #[.slice A0 l0.length c0] rfl (by (try simp only [List.map_toArray, List.map_cons, List.map_nil]); first | done | rfl | (simp only [List.length_drop, List.length_take]; rfl)) ?_; (with_reducible refine (tree_Build.calls _ _ l0 t122 t123 _ ?side1 ?side2 A4.out).mono ?_); (case side1 => repeat (first | exact (Kd.C_below HR0.out HB.out) | (with_reducible refine Kd.C_alloc ?_ _) | (with_reducible refine Kd.C_drewN ?_ _) | (with_reducible refine Kd.C_drew ?_))); (case side2 => exact HC0.out); rintro e w9 ⟨v124, rfl, ho0, hb⟩; refine ⟨_, rfl, ?_⟩; have n0_ := Aside0.mk (Kd.S_lower ho0 (below_size (by repeat (first | (with_reducible first | exact HB.out | apply below_alloc | apply pw_below_drewN | apply below_drew1) | exact HB.out)))); have n1_ := Aside0.mk (below_step (by repeat (first | (with_reducible first | exact HB.out | apply below_alloc | apply pw_below_drewN | apply below_drew1) | exact HB.out)) hb); clear HB; have HO125 := n0_; have HB := n1_; clear n0_ n1_; (try clear hb); (try clear hb2); (try clear hk); (try clear hi); (try clear ho0)) | ((with_reducible refine gate_callee (f := 12) rfl ?_); refine goesL_ (some 22) rfl rfl Try.func12 (by kernel_rfl) rfl #[.int .i64 t123] rfl (by (try simp only [List.map_toArray, List.map_cons, List.map_nil]); first | done | rfl | (simp only [List.length_drop, List.length_take]; rfl)) ?_; (with_reducible refine (stolelaw0_Num.calls t123 t126 _ A5.out).mono ?_); rintro e w' ⟨rfl, ⟨nd, rfl⟩⟩; refine ⟨_, rfl, ?_⟩))
   (try simp only [Act.put, List.setIfInBounds_toArray, List.set_cons_zero, List.set_cons_succ])
   go_cut [43] (fun v43 wc => ∃ (kq : Nat) (x43_6 : Bool), v43 = .bool x43_6 ∧ Aside0 (stolelaw7_TreeShapes.j0 kq l0 t122 x43_6 = some r) ∧ Aside0 (kq ≤ k) ∧ Aside0 (Kd.S k38 38 wc w.heap.size (fun _ => True) v124 t122) ∧ Aside0 (Below w.heap.size w wc))
   case first =>
    have H := HC7.out
    clear HC7
    by_cases c10 : (t122.length : Int) = 0
    ·rw [if_pos c10] at H
     have c10b0 : ((t122.length : Int) == 0) = true := beq_iff_eq.mpr c10
     have c10b1 : ((t122.length : Int) != 0) = false := bne_eq_false_iff_eq.mpr c10
     clear c10
     (first | rw [c10b0] | (simp only [i64_w, i32_w]; rw [c10b0]) | skip)
     have H' := Aside0.mk H
     clear H
     obtain ⟨Ao11, co11, eo11⟩ := Kd.S_slice HO125.out
     subst eo11
     go_wp2
     go_meet
     case rel => exact ⟨_, (true), (by first | rfl | (simp; done) | (simp [*]; done)), H', ⟨by first | omega | exact Nat.le_refl _⟩, ⟨by (with_reducible repeat (first | apply Kd.S_alloc | apply Kd.S_drewN | apply Kd.S_drew)); exact HO125.out⟩, ⟨by repeat (first | (with_reducible first | exact HB.out | apply below_alloc | apply pw_below_drewN | apply below_drew1) | exact HB.out)⟩⟩
    ·rw [if_neg c10] at H
     have c10b0 : ((t122.length : Int) == 0) = false := beq_eq_false_iff_ne.mpr c10
     have c10b1 : ((t122.length : Int) != 0) = true := bne_iff_ne.mpr c10
     have c10b2 : ¬ (t122 = []) := fun h_ => c10 (by rw [h_]; rfl)
     (first | rw [c10b0] | (simp only [i64_w, i32_w]; rw [c10b0]) | skip)
     by_cases c12 : 0 < (t122.length : Int)
     ·rw [if_pos c12] at H
      have c12b0 : decide (0 < (t122.length : Int)) = true := decide_eq_true c12
      have c12b1 : decide (0 < t122.length) = true := decide_eq_true (by omega)
      clear c12
      by_cases c13 : ((rd_T38 t122 0).f0) = 0
      ·rw [if_pos c13] at H
       have c13b0 : (((rd_T38 t122 0).f0) == 0) = true := beq_iff_eq.mpr c13
       have c13b1 : (((rd_T38 t122 0).f0) != 0) = false := bne_eq_false_iff_eq.mpr c13
       clear c13
       have H' := Aside0.mk H
       clear H
       obtain ⟨Ao14, co14, eo14⟩ := Kd.S_slice HO125.out
       subst eo14
       have p127 : 0 ≤ (0 : Int) := (by omega)
       have q127 : 0 < (t122.length : Int) := of_decide_eq_true (by first | (with_reducible assumption) | assumption)
       obtain ⟨ad127, A127_3, c127_3, e127, hx127_0, hx127_1, hx127_2, hx127_3, hx127_4, hl127_3, hi127_3⟩ := at_T38 (Kd.S_reads' HO125.out).2.2 0 p127 q127
       cases e127
       obtain ⟨ce127, hce127, hMe127, hcc127⟩ := Kd.S_get HO125.out z38 0 p127 (by first | exact q127 | exact of_decide_eq_true (by first | (with_reducible assumption) | assumption) | (have e_ := (Kd.S_reads' HO125.out).1; omega))
       obtain ⟨ve127_3, rfl, ge127_3⟩ := k38_openM hMe127
       have hv127_3 := hcc127 3 _ rfl
       rw [add_field _ _ 3 (by omega)] at hv127_3
       replace hv127_3 := Option.some.inj (hv127_3.symm.trans hx127_3)
       rw [hv127_3] at ge127_3
       have HL127_3 := Aside0.mk (show Kd.R k48 48 _ _ _ _ ((rd_T38 t122 0).f3) from ge127_3)
       clear hv127_3 ge127_3
       clear hcc127 hce127
       have qi127 : (0 < t122.length) = True := eq_true (by omega)
       (try rw [show ((0 : Int)).toNat = 0 from rfl] at hx127_0)
       (try rw [show 0 * 5 = 0 from rfl] at hx127_0)
       (try rw [Addr.add_zero'] at hx127_0)
       (try rw [show ((0 : Int)).toNat = 0 from rfl] at hx127_1)
       (try rw [show 0 * 5 = 0 from rfl] at hx127_1)
       (try rw [Addr.add_zero'] at hx127_1)
       (try rw [show ((0 : Int)).toNat = 0 from rfl] at hx127_2)
       (try rw [show 0 * 5 = 0 from rfl] at hx127_2)
       (try rw [Addr.add_zero'] at hx127_2)
       (try rw [show ((0 : Int)).toNat = 0 from rfl] at hx127_3)
       (try rw [show 0 * 5 = 0 from rfl] at hx127_3)
       (try rw [Addr.add_zero'] at hx127_3)
       (try rw [show ((0 : Int)).toNat = 0 from rfl] at hx127_4)
       (try rw [show 0 * 5 = 0 from rfl] at hx127_4)
       (try rw [Addr.add_zero'] at hx127_4)
       have HR127_3 := Aside0.mk hi127_3
       have HC127_3 := Aside0.mk hl127_3
       clear hi127_3 hl127_3
       replace p127 := eq_true p127
       replace q127 := eq_true q127
       have p128 : 0 ≤ (0 : Int) := (by omega)
       have q128 : 0 < (t122.length : Int) := of_decide_eq_true (by first | (with_reducible assumption) | assumption)
       obtain ⟨ad128, A128_3, c128_3, e128, hx128_0, hx128_1, hx128_2, hx128_3, hx128_4, hl128_3, hi128_3⟩ := at_T38 (Kd.S_reads' HO125.out).2.2 0 p128 q128
       obtain rfl : ad127 = ad128 := (by injection e128)
       obtain ⟨ce128, hce128, hMe128, hcc128⟩ := Kd.S_get HO125.out z38 0 p128 (by first | exact q128 | exact of_decide_eq_true (by first | (with_reducible assumption) | assumption) | (have e_ := (Kd.S_reads' HO125.out).1; omega))
       obtain ⟨ve128_3, rfl, ge128_3⟩ := k38_openM hMe128
       have hv128_3 := hcc128 3 _ rfl
       rw [add_field _ _ 3 (by omega)] at hv128_3
       replace hv128_3 := Option.some.inj (hv128_3.symm.trans hx128_3)
       rw [hv128_3] at ge128_3
       have HL128_3 := Aside0.mk (show Kd.R k48 48 _ _ _ _ ((rd_T38 t122 0).f3) from ge128_3)
       clear hv128_3 ge128_3
       clear hcc128 hce128
       have qi128 : (0 < t122.length) = True := eq_true (by omega)
       (try rw [show ((0 : Int)).toNat = 0 from rfl] at hx128_0)
       (try rw [show 0 * 5 = 0 from rfl] at hx128_0)
       (try rw [Addr.add_zero'] at hx128_0)
       (try rw [show ((0 : Int)).toNat = 0 from rfl] at hx128_1)
       (try rw [show 0 * 5 = 0 from rfl] at hx128_1)
       (try rw [Addr.add_zero'] at hx128_1)
       (try rw [show ((0 : Int)).toNat = 0 from rfl] at hx128_2)
       (try rw [show 0 * 5 = 0 from rfl] at hx128_2)
       (try rw [Addr.add_zero'] at hx128_2)
       (try rw [show ((0 : Int)).toNat = 0 from rfl] at hx128_3)
       (try rw [show 0 * 5 = 0 from rfl] at hx128_3)
       (try rw [Addr.add_zero'] at hx128_3)
       (try rw [show ((0 : Int)).toNat = 0 from rfl] at hx128_4)
       (try rw [show 0 * 5 = 0 from rfl] at hx128_4)
       (try rw [Addr.add_zero'] at hx128_4)
       have HR128_3 := Aside0.mk hi128_3
       have HC128_3 := Aside0.mk hl128_3
       clear hi128_3 hl128_3
       replace p128 := eq_true p128
       replace q128 := eq_true q128
       have ea_ := Option.some.inj (hx127_3.symm.trans hx128_3)
       injection ea_ with ea_ en_ ec_
       subst ea_
       subst ec_
       clear en_
       go_wp2
       go_meet
       case rel => exact ⟨_, ((((rd_T38 t122 0).f4) != (-1))), (by first | rfl | (simp; done) | (simp [*]; done)), H', ⟨by first | omega | exact Nat.le_refl _⟩, ⟨by (with_reducible repeat (first | apply Kd.S_alloc | apply Kd.S_drewN | apply Kd.S_drew)); exact HO125.out⟩, ⟨by repeat (first | (with_reducible first | exact HB.out | apply below_alloc | apply pw_below_drewN | apply below_drew1) | exact HB.out)⟩⟩
      ·rw [if_neg c13] at H
       have c13b0 : (((rd_T38 t122 0).f0) == 0) = false := beq_eq_false_iff_ne.mpr c13
       have c13b1 : (((rd_T38 t122 0).f0) != 0) = true := bne_iff_ne.mpr c13
       have H' := Aside0.mk H
       clear H
       obtain ⟨Ao15, co15, eo15⟩ := Kd.S_slice HO125.out
       subst eo15
       have p127 : 0 ≤ (0 : Int) := (by omega)
       have q127 : 0 < (t122.length : Int) := of_decide_eq_true (by first | (with_reducible assumption) | assumption)
       obtain ⟨ad127, A127_3, c127_3, e127, hx127_0, hx127_1, hx127_2, hx127_3, hx127_4, hl127_3, hi127_3⟩ := at_T38 (Kd.S_reads' HO125.out).2.2 0 p127 q127
       cases e127
       obtain ⟨ce127, hce127, hMe127, hcc127⟩ := Kd.S_get HO125.out z38 0 p127 (by first | exact q127 | exact of_decide_eq_true (by first | (with_reducible assumption) | assumption) | (have e_ := (Kd.S_reads' HO125.out).1; omega))
       obtain ⟨ve127_3, rfl, ge127_3⟩ := k38_openM hMe127
       have hv127_3 := hcc127 3 _ rfl
       rw [add_field _ _ 3 (by omega)] at hv127_3
       replace hv127_3 := Option.some.inj (hv127_3.symm.trans hx127_3)
       rw [hv127_3] at ge127_3
       have HL127_3 := Aside0.mk (show Kd.R k48 48 _ _ _ _ ((rd_T38 t122 0).f3) from ge127_3)
       clear hv127_3 ge127_3
       clear hcc127 hce127
       have qi127 : (0 < t122.length) = True := eq_true (by omega)
       (try rw [show ((0 : Int)).toNat = 0 from rfl] at hx127_0)
       (try rw [show 0 * 5 = 0 from rfl] at hx127_0)
       (try rw [Addr.add_zero'] at hx127_0)
       (try rw [show ((0 : Int)).toNat = 0 from rfl] at hx127_1)
       (try rw [show 0 * 5 = 0 from rfl] at hx127_1)
       (try rw [Addr.add_zero'] at hx127_1)
       (try rw [show ((0 : Int)).toNat = 0 from rfl] at hx127_2)
       (try rw [show 0 * 5 = 0 from rfl] at hx127_2)
       (try rw [Addr.add_zero'] at hx127_2)
       (try rw [show ((0 : Int)).toNat = 0 from rfl] at hx127_3)
       (try rw [show 0 * 5 = 0 from rfl] at hx127_3)
       (try rw [Addr.add_zero'] at hx127_3)
       (try rw [show ((0 : Int)).toNat = 0 from rfl] at hx127_4)
       (try rw [show 0 * 5 = 0 from rfl] at hx127_4)
       (try rw [Addr.add_zero'] at hx127_4)
       have HR127_3 := Aside0.mk hi127_3
       have HC127_3 := Aside0.mk hl127_3
       clear hi127_3 hl127_3
       replace p127 := eq_true p127
       replace q127 := eq_true q127
       go_wp2
       go_meet
       case rel => exact ⟨_, (true), (by first | rfl | (simp; done) | (simp [*]; done)), H', ⟨by first | omega | exact Nat.le_refl _⟩, ⟨by (with_reducible repeat (first | apply Kd.S_alloc | apply Kd.S_drewN | apply Kd.S_drew)); exact HO125.out⟩, ⟨by repeat (first | (with_reducible first | exact HB.out | apply below_alloc | apply pw_below_drewN | apply below_drew1) | exact HB.out)⟩⟩
     ·rw [if_neg c12] at H
      exact absurd H (by simp)
   case rest =>
    clear HC7
    try clear c1
    try clear p1
    try clear q1
    try clear hx1
    try clear qi1
    try clear p2
    try clear c3
    try clear c4
    try clear c6
    try clear c6b0
    try clear c6b1
    try clear c9
    try clear c10
    try clear c10b0
    try clear c10b1
    try clear c10b2
    try clear c12
    try clear c12b0
    try clear c12b1
    try clear p12
    try clear q12
    try clear hx12
    try clear qi12
    try clear c13
    try clear c13b0
    try clear c13b1
    try clear c15
    try clear hx127_0
    try clear hx127_1
    try clear hx127_2
    try clear hx127_3
    try clear hx127_4
    try clear hx128_0
    try clear hx128_1
    try clear hx128_2
    try clear hx128_3
    try clear hx128_4
    try clear p127
    try clear p128
    try clear q127
    try clear q128
    obtain ⟨kq, x43_6, rfl, HA, HJ6, HO_3, HB⟩ := hcut
    cases kq with
    | zero => exact absurd HA.out (by simp [stolelaw7_TreeShapes.j0])
    | succ kj6 =>
     have H := HA.out
     clear HA
     simp only [stolelaw7_TreeShapes.j0] at H
     by_cases c16 : x43_6 = true
     ·subst c16
      have H1 : (some false) = some r := by rw [if_pos rfl] at H; exact H
      clear H
      have H := H1
      clear H1
      obtain rfl := Option.some.inj H
      go_wp2
      go_ret
      exact ⟨by first | rfl | (simp [errW_none, errW_some] <;> rfl) | (simp [*, errW_none, errW_some] <;> rfl), by repeat (first | (with_reducible first | exact HB.out | apply below_alloc | apply pw_below_drewN | apply below_drew1) | exact HB.out)⟩
     ·replace c16 := Bool.eq_false_iff.mpr c16
      subst c16
      have H1 : (if 0 ≤ (t122.length : Int) then (if ((t122.length : Int) : Int).toNat ≤ 35184372088832 then (stolelaw7_TreeShapes.l0 kj6 l0 t122 (List.replicate ((t122.length : Int) : Int).toNat 0) (⟨#[]⟩ : ByteArray) 1) else (none)) else (none)) = some r := by rw [if_neg (show ¬ (false = true) by decide)] at H; exact H
      clear H
      have H := H1
      clear H1
      by_cases c17 : 0 ≤ (t122.length : Int)
      ·rw [if_pos c17] at H
       have c17b0 := eq_true c17
       have c17b1 : decide (0 ≤ (t122.length : Int)) = true := decide_eq_true c17
       clear c17
       by_cases c18 : ((t122.length : Int) : Int).toNat ≤ 35184372088832
       ·rw [if_pos c18] at H
        have c18b0 := eq_true c18
        have c18b1 : decide (((t122.length : Int) : Int).toNat ≤ 35184372088832) = true := decide_eq_true c18
        clear c18
        obtain ⟨y129, hy129⟩ : ∃ y_ : List Int, y_ = (List.replicate ((t122.length : Int) : Int).toNat 0) := ⟨_, rfl⟩
        replace H : (stolelaw7_TreeShapes.l0 kj6 l0 t122 y129 (⟨#[]⟩ : ByteArray) 1) = some r := by first | (rw [hy129]; with_reducible exact H) | (have H2_ := (Option.bind_some _ _).symm.trans H; rw [hy129]; with_reducible exact H2_) | (have H2_ := (Option.bind_some _ _).symm.trans H; with_reducible exact H2_) | with_reducible exact H | (rw [hy129]; exact H) | exact H
        have Ny129 := Aside0.mk hy129
        clear hy129
        have H' := Aside0.mk H
        clear H
        obtain ⟨Ao19, co19, eo19⟩ := Kd.S_slice HO_3.out
        subst eo19
        go_wp2_with (first | ((with_reducible refine gate_dst (N := 46) rfl ?_); refine Kd.R_make (Kd.int .i64) _ 3 rfl (N := 46) rfl 39 _ _ rfl (t122.length : Int) rfl rfl Try.underlying39 (.int .i64 0) 8 info3 rfl (by decide) (by omega) 0 (ok := fun _ => True) (okp := fun _ => True) rfl (fun _ hk => hk) trivial (of_decide_eq_true (by first | (with_reducible assumption) | assumption)) (Nat.le_trans (Nat.mul_le_mul_right _ (of_decide_eq_true (by first | (with_reducible assumption) | assumption) : (t122.length : Int).toNat ≤ 35184372088832)) (by omega)) (Below.refl _ _) (Nat.le_refl _) ?_; intro v130 w20 ho21 hb hg_ hnew_; clear hg_ hnew_; (first | rw [← Ny129.out] at ho21 | (simp only [Int.reduceToNat] at ho21; rw [← Ny129.out] at ho21)); have n0_ := Aside0.mk (Kd.S_below (by (with_reducible repeat (first | apply Kd.S_alloc | apply Kd.S_drewN | apply Kd.S_drew)); exact HO_3.out) hb); have n1_ := Aside0.mk (Kd.R_lower ho21 (below_size (by repeat (first | (with_reducible first | exact HB.out | apply below_alloc | apply pw_below_drewN | apply below_drew1) | exact HB.out)))); have n2_ := Aside0.mk (below_step (by repeat (first | (with_reducible first | exact HB.out | apply below_alloc | apply pw_below_drewN | apply below_drew1) | exact HB.out)) hb); clear HO_3; clear HB; have HO_3 := n0_; have HO131 := n1_; have HB := n2_; clear n0_ n1_ n2_; clear hb ho21))
        go_loopg [6, 7] kj6 (fun kq v6 v7 w' => ∃ (x5_2 : List Int) (x6_2 : ByteArray) (x7_2 : Int), v6 = .string x6_2 ∧ v7 = .int .i64 x7_2 ∧ Aside0 (stolelaw7_TreeShapes.l0 kq l0 t122 x5_2 x6_2 x7_2 = some r) ∧ Aside0 (kq ≤ kj6) ∧ Aside0 (Kd.S k38 38 w' w.heap.size (fun _ => True) (.slice Ao19 t122.length co19) t122) ∧ Aside0 (Kd.R (Kd.int .i64) 3 w' w.heap.size (fun _ => True) v130 x5_2) ∧ Aside0 (Below w.heap.size w w'))
        case atStart => exact ⟨(y129), ((⟨#[]⟩ : ByteArray)), (1), (by first | rfl | (simp; done) | (simp [*]; done)), (by first | rfl | (simp; done) | (simp [*]; done)), H', ⟨Nat.le_refl _⟩, ⟨by (with_reducible repeat (first | apply Kd.S_alloc | apply Kd.S_drewN | apply Kd.S_drew)); exact HO_3.out⟩, ⟨by (with_reducible repeat (first | apply Kd.R_alloc | apply Kd.R_drewN | apply Kd.R_drew)); exact HO131.out⟩, ⟨by repeat (first | (with_reducible first | exact HB.out | apply below_alloc | apply pw_below_drewN | apply below_drew1) | exact HB.out)⟩⟩
        case round =>
         clear H'
         try clear c1
         try clear p1
         try clear q1
         try clear hx1
         try clear qi1
         try clear p2
         try clear c3
         try clear c4
         try clear c6
         try clear c6b0
         try clear c6b1
         try clear c9
         try clear c10
         try clear c10b0
         try clear c10b1
         try clear c10b2
         try clear c12
         try clear c12b0
         try clear c12b1
         try clear p12
         try clear q12
         try clear hx12
         try clear qi12
         try clear c13
         try clear c13b0
         try clear c13b1
         try clear c15
         try clear c16
         try clear c17
         try clear c17b0
         try clear c17b1
         try clear c18
         try clear c18b0
         try clear c18b1
         try clear hx127_0
         try clear hx127_1
         try clear hx127_2
         try clear hx127_3
         try clear hx127_4
         try clear hx128_0
         try clear hx128_1
         try clear hx128_2
         try clear hx128_3
         try clear hx128_4
         try clear p1
         try clear p12
         try clear p127
         try clear p128
         try clear p2
         try clear q1
         try clear q12
         try clear q127
         try clear q128
         obtain ⟨x5_2, x6_2, x7_2, rfl, rfl, HA, HK2, HO_3, HO_5, HB⟩ := hrel
         cases gk with
         | zero => exact absurd HA.out (by simp [stolelaw7_TreeShapes.l0])
         | succ k2 =>
          have H := HA.out
          clear HA
          simp only [stolelaw7_TreeShapes.l0] at H
          by_cases c22 : x7_2 < (t122.length : Int)
          ·rw [if_pos c22] at H
           have c22b0 : decide (x7_2 < (t122.length : Int)) = true := decide_eq_true c22
           clear c22
           by_cases c23 : 0 ≤ x7_2
           ·rw [if_pos c23] at H
            have c23b0 : decide (0 ≤ x7_2) = true := decide_eq_true c23
            clear c23
            have HC24 := Aside0.mk H
            clear H
            have p132 : 0 ≤ (x7_2 : Int) := of_decide_eq_true (by first | (with_reducible assumption) | assumption)
            have q132 : x7_2 < (t122.length : Int) := of_decide_eq_true (by first | (with_reducible assumption) | assumption)
            obtain ⟨ad132, A132_3, c132_3, e132, hx132_0, hx132_1, hx132_2, hx132_3, hx132_4, hl132_3, hi132_3⟩ := at_T38 (Kd.S_reads' HO_3.out).2.2 x7_2 p132 q132
            cases e132
            obtain ⟨ce132, hce132, hMe132, hcc132⟩ := Kd.S_get HO_3.out z38 x7_2 p132 (by first | exact q132 | exact of_decide_eq_true (by first | (with_reducible assumption) | assumption) | (have e_ := (Kd.S_reads' HO_3.out).1; omega))
            obtain ⟨ve132_3, rfl, ge132_3⟩ := k38_openM hMe132
            have hv132_3 := hcc132 3 _ rfl
            rw [add_field _ _ 3 (by omega)] at hv132_3
            replace hv132_3 := Option.some.inj (hv132_3.symm.trans hx132_3)
            rw [hv132_3] at ge132_3
            have HL132_3 := Aside0.mk (show Kd.R k48 48 _ _ _ _ ((rd_T38 t122 x7_2).f3) from ge132_3)
            clear hv132_3 ge132_3
            clear hcc132 hce132
            have HR132_3 := Aside0.mk hi132_3
            have HC132_3 := Aside0.mk hl132_3
            clear hi132_3 hl132_3
            replace p132 := eq_true p132
            replace q132 := eq_true q132
            go_upto_region 14 with (fail)
            go_cut [88] (fun v88 wc => ∃ (kq : Nat) (x88_23 : Bool), v88 = .bool x88_23 ∧ Aside0 (stolelaw7_TreeShapes.j2 kq l0 t122 x5_2 x6_2 x7_2 ((rd_T38 t122 x7_2).f4) x88_23 = some r) ∧ Aside0 (kq ≤ k2) ∧ Aside0 (Kd.S k38 38 wc w.heap.size (fun _ => True) (.slice (some ad132) t122.length co19) t122) ∧ Aside0 (Kd.R (Kd.int .i64) 3 wc w.heap.size (fun _ => True) v130 x5_2) ∧ Aside0 (Kd.C k48 wc A132_3 ((rd_T38 t122 x7_2).f3).length ((rd_T38 t122 x7_2).f3)) ∧ Aside0 (Below w.heap.size w wc))
            case first =>
             have H := HC24.out
             clear HC24
             by_cases c25 : ((rd_T38 t122 x7_2).f4) < 0
             ·rw [if_pos c25] at H
              have c25b0 : decide (((rd_T38 t122 x7_2).f4) < 0) = true := decide_eq_true c25
              clear c25
              (first | rw [c25b0] | (simp only [i64_w, i32_w]; rw [c25b0]) | skip)
              have H' := Aside0.mk H
              clear H
              go_wp2
              go_meet
              case rel => exact ⟨_, (true), (by first | rfl | (simp; done) | (simp [*]; done)), H', ⟨by have := HJ6.out; have := HK2.out; first | omega | exact Nat.le_refl _⟩, ⟨by (with_reducible repeat (first | apply Kd.S_alloc | apply Kd.S_drewN | apply Kd.S_drew)); exact HO_3.out⟩, ⟨by (with_reducible repeat (first | apply Kd.R_alloc | apply Kd.R_drewN | apply Kd.R_drew)); exact HO_5.out⟩, ⟨by repeat (first | (with_reducible exact HR132_3.out) | (with_reducible refine Kd.C_alloc ?_ _) | (with_reducible refine Kd.C_drewN ?_ _) | (with_reducible refine Kd.C_drew ?_) | exact HR132_3.out)⟩, ⟨by repeat (first | (with_reducible first | exact HB.out | apply below_alloc | apply pw_below_drewN | apply below_drew1) | exact HB.out)⟩⟩
             ·rw [if_neg c25] at H
              have c25b0 : decide (((rd_T38 t122 x7_2).f4) < 0) = false := decide_eq_false c25
              clear c25
              (first | rw [c25b0] | (simp only [i64_w, i32_w]; rw [c25b0]) | skip)
              by_cases c26 : ((rd_T38 t122 x7_2).f4) ≥ x7_2
              ·rw [if_pos c26] at H
               have c26b0 : decide (x7_2 ≤ ((rd_T38 t122 x7_2).f4)) = true := decide_eq_true c26
               clear c26
               have H' := Aside0.mk H
               clear H
               go_wp2
               go_meet
               case rel => exact ⟨_, (true), (by first | rfl | (simp; done) | (simp [*]; done)), H', ⟨by have := HJ6.out; have := HK2.out; first | omega | exact Nat.le_refl _⟩, ⟨by (with_reducible repeat (first | apply Kd.S_alloc | apply Kd.S_drewN | apply Kd.S_drew)); exact HO_3.out⟩, ⟨by (with_reducible repeat (first | apply Kd.R_alloc | apply Kd.R_drewN | apply Kd.R_drew)); exact HO_5.out⟩, ⟨by repeat (first | (with_reducible exact HR132_3.out) | (with_reducible refine Kd.C_alloc ?_ _) | (with_reducible refine Kd.C_drewN ?_ _) | (with_reducible refine Kd.C_drew ?_) | exact HR132_3.out)⟩, ⟨by repeat (first | (with_reducible first | exact HB.out | apply below_alloc | apply pw_below_drewN | apply below_drew1) | exact HB.out)⟩⟩
              ·rw [if_neg c26] at H
               have c26b0 : decide (x7_2 ≤ ((rd_T38 t122 x7_2).f4)) = false := decide_eq_false c26
               clear c26
               by_cases c27 : 0 ≤ ((rd_T38 t122 x7_2).f4)
               ·rw [if_pos c27] at H
                have c27b0 : decide (0 ≤ ((rd_T38 t122 x7_2).f4)) = true := decide_eq_true c27
                clear c27
                by_cases c28 : ((rd_T38 t122 x7_2).f4) < (t122.length : Int)
                ·rw [if_pos c28] at H
                 have c28b0 : decide (((rd_T38 t122 x7_2).f4) < (t122.length : Int)) = true := decide_eq_true c28
                 clear c28
                 by_cases c29 : ((rd_T38 t122 ((rd_T38 t122 x7_2).f4)).f0) = 0
                 ·rw [if_pos c29] at H
                  have c29b0 : (((rd_T38 t122 ((rd_T38 t122 x7_2).f4)).f0) == 0) = true := beq_iff_eq.mpr c29
                  have c29b1 : (((rd_T38 t122 ((rd_T38 t122 x7_2).f4)).f0) != 0) = false := bne_eq_false_iff_eq.mpr c29
                  clear c29
                  have H' := Aside0.mk H
                  clear H
                  have p133 : 0 ≤ (((rd_T38 t122 x7_2).f4) : Int) := of_decide_eq_true (by first | (with_reducible assumption) | assumption)
                  have q133 : ((rd_T38 t122 x7_2).f4) < (t122.length : Int) := of_decide_eq_true (by first | (with_reducible assumption) | assumption)
                  obtain ⟨ad133, A133_3, c133_3, e133, hx133_0, hx133_1, hx133_2, hx133_3, hx133_4, hl133_3, hi133_3⟩ := at_T38 (Kd.S_reads' HO_3.out).2.2 ((rd_T38 t122 x7_2).f4) p133 q133
                  obtain rfl : ad132 = ad133 := (by injection e133)
                  obtain ⟨ce133, hce133, hMe133, hcc133⟩ := Kd.S_get HO_3.out z38 ((rd_T38 t122 x7_2).f4) p133 (by first | exact q133 | exact of_decide_eq_true (by first | (with_reducible assumption) | assumption) | (have e_ := (Kd.S_reads' HO_3.out).1; omega))
                  obtain ⟨ve133_3, rfl, ge133_3⟩ := k38_openM hMe133
                  have hv133_3 := hcc133 3 _ rfl
                  rw [add_field _ _ 3 (by omega)] at hv133_3
                  replace hv133_3 := Option.some.inj (hv133_3.symm.trans hx133_3)
                  rw [hv133_3] at ge133_3
                  have HL133_3 := Aside0.mk (show Kd.R k48 48 _ _ _ _ ((rd_T38 t122 ((rd_T38 t122 x7_2).f4)).f3) from ge133_3)
                  clear hv133_3 ge133_3
                  clear hcc133 hce133
                  have HR133_3 := Aside0.mk hi133_3
                  have HC133_3 := Aside0.mk hl133_3
                  clear hi133_3 hl133_3
                  replace p133 := eq_true p133
                  replace q133 := eq_true q133
                  have p134 : 0 ≤ (x7_2 : Int) := of_decide_eq_true (by first | (with_reducible assumption) | assumption)
                  have q134 : x7_2 < (t122.length : Int) := of_decide_eq_true (by first | (with_reducible assumption) | assumption)
                  obtain ⟨ad134, A134_3, c134_3, e134, hx134_0, hx134_1, hx134_2, hx134_3, hx134_4, hl134_3, hi134_3⟩ := at_T38 (Kd.S_reads' HO_3.out).2.2 x7_2 p134 q134
                  obtain rfl : ad132 = ad134 := (by injection e134)
                  obtain ⟨ce134, hce134, hMe134, hcc134⟩ := Kd.S_get HO_3.out z38 x7_2 p134 (by first | exact q134 | exact of_decide_eq_true (by first | (with_reducible assumption) | assumption) | (have e_ := (Kd.S_reads' HO_3.out).1; omega))
                  obtain ⟨ve134_3, rfl, ge134_3⟩ := k38_openM hMe134
                  have hv134_3 := hcc134 3 _ rfl
                  rw [add_field _ _ 3 (by omega)] at hv134_3
                  replace hv134_3 := Option.some.inj (hv134_3.symm.trans hx134_3)
                  rw [hv134_3] at ge134_3
                  have HL134_3 := Aside0.mk (show Kd.R k48 48 _ _ _ _ ((rd_T38 t122 x7_2).f3) from ge134_3)
                  clear hv134_3 ge134_3
                  clear hcc134 hce134
                  have HR134_3 := Aside0.mk hi134_3
                  have HC134_3 := Aside0.mk hl134_3
                  clear hi134_3 hl134_3
                  replace p134 := eq_true p134
                  replace q134 := eq_true q134
                  go_wp2
                  go_meet
                  case rel => exact ⟨_, ((((rd_T38 t122 x7_2).f0) == 0)), (by first | rfl | (simp; done) | (simp [*]; done)), H', ⟨by have := HJ6.out; have := HK2.out; first | omega | exact Nat.le_refl _⟩, ⟨by (with_reducible repeat (first | apply Kd.S_alloc | apply Kd.S_drewN | apply Kd.S_drew)); exact HO_3.out⟩, ⟨by (with_reducible repeat (first | apply Kd.R_alloc | apply Kd.R_drewN | apply Kd.R_drew)); exact HO_5.out⟩, ⟨by repeat (first | (with_reducible exact HR132_3.out) | (with_reducible refine Kd.C_alloc ?_ _) | (with_reducible refine Kd.C_drewN ?_ _) | (with_reducible refine Kd.C_drew ?_) | exact HR132_3.out)⟩, ⟨by repeat (first | (with_reducible first | exact HB.out | apply below_alloc | apply pw_below_drewN | apply below_drew1) | exact HB.out)⟩⟩
                 ·rw [if_neg c29] at H
                  have c29b0 : (((rd_T38 t122 ((rd_T38 t122 x7_2).f4)).f0) == 0) = false := beq_eq_false_iff_ne.mpr c29
                  have c29b1 : (((rd_T38 t122 ((rd_T38 t122 x7_2).f4)).f0) != 0) = true := bne_iff_ne.mpr c29
                  by_cases c30 : ((rd_T38 t122 ((rd_T38 t122 x7_2).f4)).f0) = 1
                  ·rw [if_pos c30] at H
                   have c30b0 : (((rd_T38 t122 ((rd_T38 t122 x7_2).f4)).f0) == 1) = true := beq_iff_eq.mpr c30
                   have c30b1 : (((rd_T38 t122 ((rd_T38 t122 x7_2).f4)).f0) != 1) = false := bne_eq_false_iff_eq.mpr c30
                   clear c30
                   have H' := Aside0.mk H
                   clear H
                   have p133 : 0 ≤ (((rd_T38 t122 x7_2).f4) : Int) := of_decide_eq_true (by first | (with_reducible assumption) | assumption)
                   have q133 : ((rd_T38 t122 x7_2).f4) < (t122.length : Int) := of_decide_eq_true (by first | (with_reducible assumption) | assumption)
                   obtain ⟨ad133, A133_3, c133_3, e133, hx133_0, hx133_1, hx133_2, hx133_3, hx133_4, hl133_3, hi133_3⟩ := at_T38 (Kd.S_reads' HO_3.out).2.2 ((rd_T38 t122 x7_2).f4) p133 q133
                   obtain rfl : ad132 = ad133 := (by injection e133)
                   obtain ⟨ce133, hce133, hMe133, hcc133⟩ := Kd.S_get HO_3.out z38 ((rd_T38 t122 x7_2).f4) p133 (by first | exact q133 | exact of_decide_eq_true (by first | (with_reducible assumption) | assumption) | (have e_ := (Kd.S_reads' HO_3.out).1; omega))
                   obtain ⟨ve133_3, rfl, ge133_3⟩ := k38_openM hMe133
                   have hv133_3 := hcc133 3 _ rfl
                   rw [add_field _ _ 3 (by omega)] at hv133_3
                   replace hv133_3 := Option.some.inj (hv133_3.symm.trans hx133_3)
                   rw [hv133_3] at ge133_3
                   have HL133_3 := Aside0.mk (show Kd.R k48 48 _ _ _ _ ((rd_T38 t122 ((rd_T38 t122 x7_2).f4)).f3) from ge133_3)
                   clear hv133_3 ge133_3
                   clear hcc133 hce133
                   have HR133_3 := Aside0.mk hi133_3
                   have HC133_3 := Aside0.mk hl133_3
                   clear hi133_3 hl133_3
                   replace p133 := eq_true p133
                   replace q133 := eq_true q133
                   have p135 : 0 ≤ (((rd_T38 t122 x7_2).f4) : Int) := of_decide_eq_true (by first | (with_reducible assumption) | assumption)
                   have q135 : ((rd_T38 t122 x7_2).f4) < (t122.length : Int) := of_decide_eq_true (by first | (with_reducible assumption) | assumption)
                   obtain ⟨ad135, A135_3, c135_3, e135, hx135_0, hx135_1, hx135_2, hx135_3, hx135_4, hl135_3, hi135_3⟩ := at_T38 (Kd.S_reads' HO_3.out).2.2 ((rd_T38 t122 x7_2).f4) p135 q135
                   obtain rfl : ad132 = ad135 := (by injection e135)
                   obtain ⟨ce135, hce135, hMe135, hcc135⟩ := Kd.S_get HO_3.out z38 ((rd_T38 t122 x7_2).f4) p135 (by first | exact q135 | exact of_decide_eq_true (by first | (with_reducible assumption) | assumption) | (have e_ := (Kd.S_reads' HO_3.out).1; omega))
                   obtain ⟨ve135_3, rfl, ge135_3⟩ := k38_openM hMe135
                   have hv135_3 := hcc135 3 _ rfl
                   rw [add_field _ _ 3 (by omega)] at hv135_3
                   replace hv135_3 := Option.some.inj (hv135_3.symm.trans hx135_3)
                   rw [hv135_3] at ge135_3
                   have HL135_3 := Aside0.mk (show Kd.R k48 48 _ _ _ _ ((rd_T38 t122 ((rd_T38 t122 x7_2).f4)).f3) from ge135_3)
                   clear hv135_3 ge135_3
                   clear hcc135 hce135
                   have HR135_3 := Aside0.mk hi135_3
                   have HC135_3 := Aside0.mk hl135_3
                   clear hi135_3 hl135_3
                   replace p135 := eq_true p135
                   replace q135 := eq_true q135
                   have ea_ := Option.some.inj (hx133_3.symm.trans hx135_3)
                   injection ea_ with ea_ en_ ec_
                   subst ea_
                   subst ec_
                   clear en_
                   have p136 : 0 ≤ (x7_2 : Int) := of_decide_eq_true (by first | (with_reducible assumption) | assumption)
                   have q136 : x7_2 < (t122.length : Int) := of_decide_eq_true (by first | (with_reducible assumption) | assumption)
                   obtain ⟨ad136, A136_3, c136_3, e136, hx136_0, hx136_1, hx136_2, hx136_3, hx136_4, hl136_3, hi136_3⟩ := at_T38 (Kd.S_reads' HO_3.out).2.2 x7_2 p136 q136
                   obtain rfl : ad132 = ad136 := (by injection e136)
                   obtain ⟨ce136, hce136, hMe136, hcc136⟩ := Kd.S_get HO_3.out z38 x7_2 p136 (by first | exact q136 | exact of_decide_eq_true (by first | (with_reducible assumption) | assumption) | (have e_ := (Kd.S_reads' HO_3.out).1; omega))
                   obtain ⟨ve136_3, rfl, ge136_3⟩ := k38_openM hMe136
                   have hv136_3 := hcc136 3 _ rfl
                   rw [add_field _ _ 3 (by omega)] at hv136_3
                   replace hv136_3 := Option.some.inj (hv136_3.symm.trans hx136_3)
                   rw [hv136_3] at ge136_3
                   have HL136_3 := Aside0.mk (show Kd.R k48 48 _ _ _ _ ((rd_T38 t122 x7_2).f3) from ge136_3)
                   clear hv136_3 ge136_3
                   clear hcc136 hce136
                   have HR136_3 := Aside0.mk hi136_3
                   have HC136_3 := Aside0.mk hl136_3
                   clear hi136_3 hl136_3
                   replace p136 := eq_true p136
                   replace q136 := eq_true q136
                   go_wp2
                   go_meet
                   case rel => exact ⟨_, ((((rd_T38 t122 x7_2).f0) == 0)), (by first | rfl | (simp; done) | (simp [*]; done)), H', ⟨by have := HJ6.out; have := HK2.out; first | omega | exact Nat.le_refl _⟩, ⟨by (with_reducible repeat (first | apply Kd.S_alloc | apply Kd.S_drewN | apply Kd.S_drew)); exact HO_3.out⟩, ⟨by (with_reducible repeat (first | apply Kd.R_alloc | apply Kd.R_drewN | apply Kd.R_drew)); exact HO_5.out⟩, ⟨by repeat (first | (with_reducible exact HR132_3.out) | (with_reducible refine Kd.C_alloc ?_ _) | (with_reducible refine Kd.C_drewN ?_ _) | (with_reducible refine Kd.C_drew ?_) | exact HR132_3.out)⟩, ⟨by repeat (first | (with_reducible first | exact HB.out | apply below_alloc | apply pw_below_drewN | apply below_drew1) | exact HB.out)⟩⟩
                  ·rw [if_neg c30] at H
                   have c30b0 : (((rd_T38 t122 ((rd_T38 t122 x7_2).f4)).f0) == 1) = false := beq_eq_false_iff_ne.mpr c30
                   have c30b1 : (((rd_T38 t122 ((rd_T38 t122 x7_2).f4)).f0) != 1) = true := bne_iff_ne.mpr c30
                   have H' := Aside0.mk H
                   clear H
                   have p133 : 0 ≤ (((rd_T38 t122 x7_2).f4) : Int) := of_decide_eq_true (by first | (with_reducible assumption) | assumption)
                   have q133 : ((rd_T38 t122 x7_2).f4) < (t122.length : Int) := of_decide_eq_true (by first | (with_reducible assumption) | assumption)
                   obtain ⟨ad133, A133_3, c133_3, e133, hx133_0, hx133_1, hx133_2, hx133_3, hx133_4, hl133_3, hi133_3⟩ := at_T38 (Kd.S_reads' HO_3.out).2.2 ((rd_T38 t122 x7_2).f4) p133 q133
                   obtain rfl : ad132 = ad133 := (by injection e133)
                   obtain ⟨ce133, hce133, hMe133, hcc133⟩ := Kd.S_get HO_3.out z38 ((rd_T38 t122 x7_2).f4) p133 (by first | exact q133 | exact of_decide_eq_true (by first | (with_reducible assumption) | assumption) | (have e_ := (Kd.S_reads' HO_3.out).1; omega))
                   obtain ⟨ve133_3, rfl, ge133_3⟩ := k38_openM hMe133
                   have hv133_3 := hcc133 3 _ rfl
                   rw [add_field _ _ 3 (by omega)] at hv133_3
                   replace hv133_3 := Option.some.inj (hv133_3.symm.trans hx133_3)
                   rw [hv133_3] at ge133_3
                   have HL133_3 := Aside0.mk (show Kd.R k48 48 _ _ _ _ ((rd_T38 t122 ((rd_T38 t122 x7_2).f4)).f3) from ge133_3)
                   clear hv133_3 ge133_3
                   clear hcc133 hce133
                   have HR133_3 := Aside0.mk hi133_3
                   have HC133_3 := Aside0.mk hl133_3
                   clear hi133_3 hl133_3
                   replace p133 := eq_true p133
                   replace q133 := eq_true q133
                   have p135 : 0 ≤ (((rd_T38 t122 x7_2).f4) : Int) := of_decide_eq_true (by first | (with_reducible assumption) | assumption)
                   have q135 : ((rd_T38 t122 x7_2).f4) < (t122.length : Int) := of_decide_eq_true (by first | (with_reducible assumption) | assumption)
                   obtain ⟨ad135, A135_3, c135_3, e135, hx135_0, hx135_1, hx135_2, hx135_3, hx135_4, hl135_3, hi135_3⟩ := at_T38 (Kd.S_reads' HO_3.out).2.2 ((rd_T38 t122 x7_2).f4) p135 q135
                   obtain rfl : ad132 = ad135 := (by injection e135)
                   obtain ⟨ce135, hce135, hMe135, hcc135⟩ := Kd.S_get HO_3.out z38 ((rd_T38 t122 x7_2).f4) p135 (by first | exact q135 | exact of_decide_eq_true (by first | (with_reducible assumption) | assumption) | (have e_ := (Kd.S_reads' HO_3.out).1; omega))
                   obtain ⟨ve135_3, rfl, ge135_3⟩ := k38_openM hMe135
                   have hv135_3 := hcc135 3 _ rfl
                   rw [add_field _ _ 3 (by omega)] at hv135_3
                   replace hv135_3 := Option.some.inj (hv135_3.symm.trans hx135_3)
                   rw [hv135_3] at ge135_3
                   have HL135_3 := Aside0.mk (show Kd.R k48 48 _ _ _ _ ((rd_T38 t122 ((rd_T38 t122 x7_2).f4)).f3) from ge135_3)
                   clear hv135_3 ge135_3
                   clear hcc135 hce135
                   have HR135_3 := Aside0.mk hi135_3
                   have HC135_3 := Aside0.mk hl135_3
                   clear hi135_3 hl135_3
                   replace p135 := eq_true p135
                   replace q135 := eq_true q135
                   have ea_ := Option.some.inj (hx133_3.symm.trans hx135_3)
                   injection ea_ with ea_ en_ ec_
                   subst ea_
                   subst ec_
                   clear en_
                   go_wp2
                   go_meet
                   case rel => exact ⟨_, (true), (by first | rfl | (simp; done) | (simp [*]; done)), H', ⟨by have := HJ6.out; have := HK2.out; first | omega | exact Nat.le_refl _⟩, ⟨by (with_reducible repeat (first | apply Kd.S_alloc | apply Kd.S_drewN | apply Kd.S_drew)); exact HO_3.out⟩, ⟨by (with_reducible repeat (first | apply Kd.R_alloc | apply Kd.R_drewN | apply Kd.R_drew)); exact HO_5.out⟩, ⟨by repeat (first | (with_reducible exact HR132_3.out) | (with_reducible refine Kd.C_alloc ?_ _) | (with_reducible refine Kd.C_drewN ?_ _) | (with_reducible refine Kd.C_drew ?_) | exact HR132_3.out)⟩, ⟨by repeat (first | (with_reducible first | exact HB.out | apply below_alloc | apply pw_below_drewN | apply below_drew1) | exact HB.out)⟩⟩
                ·rw [if_neg c28] at H
                 exact absurd H (by simp)
               ·rw [if_neg c27] at H
                exact absurd H (by simp)
            case rest =>
             clear HC24
             try clear c1
             try clear p1
             try clear q1
             try clear hx1
             try clear qi1
             try clear c2
             try clear p2
             try clear c3
             try clear c4
             try clear c6
             try clear c6b0
             try clear c6b1
             try clear c9
             try clear c10
             try clear c10b0
             try clear c10b1
             try clear c10b2
             try clear c12
             try clear c12b0
             try clear c12b1
             try clear p12
             try clear q12
             try clear hx12
             try clear qi12
             try clear c13
             try clear c13b0
             try clear c13b1
             try clear p13
             try clear q13
             try clear hx13
             try clear c15
             try clear c16
             try clear c17
             try clear c17b0
             try clear c17b1
             try clear c18
             try clear c18b0
             try clear c18b1
             try clear c22
             try clear c22b0
             try clear c23
             try clear c23b0
             try clear c25
             try clear c25b0
             try clear c26
             try clear c26b0
             try clear c27
             try clear c27b0
             try clear c28
             try clear c28b0
             try clear c29
             try clear c29b0
             try clear c29b1
             try clear c30
             try clear c30b0
             try clear c30b1
             try clear hx127_0
             try clear hx127_1
             try clear hx127_2
             try clear hx127_3
             try clear hx127_4
             try clear hx128_0
             try clear hx128_1
             try clear hx128_2
             try clear hx128_3
             try clear hx128_4
             try clear hx132_0
             try clear hx132_1
             try clear hx132_2
             try clear hx132_3
             try clear hx132_4
             try clear hx133_0
             try clear hx133_1
             try clear hx133_2
             try clear hx133_3
             try clear hx133_4
             try clear hx134_0
             try clear hx134_1
             try clear hx134_2
             try clear hx134_3
             try clear hx134_4
             try clear hx135_0
             try clear hx135_1
             try clear hx135_2
             try clear hx135_3
             try clear hx135_4
             try clear hx136_0
             try clear hx136_1
             try clear hx136_2
             try clear hx136_3
             try clear hx136_4
             try clear p1
             try clear p12
             try clear p127
             try clear p128
             try clear p132
             try clear p133
             try clear p134
             try clear p135
             try clear p136
             try clear p2
             try clear q1
             try clear q12
             try clear q127
             try clear q128
             try clear q132
             try clear q133
             try clear q134
             try clear q135
             try clear q136
             obtain ⟨kq, x88_23, rfl, HA, HJ23, HO_3, HO_5, HR132_3, HB⟩ := hcut
             cases kq with
             | zero => exact absurd HA.out (by simp [stolelaw7_TreeShapes.j2])
             | succ kj23 =>
              have H := HA.out
              clear HA
              simp only [stolelaw7_TreeShapes.j2] at H
              by_cases c31 : x88_23 = true
              ·subst c31
               have H1 : (some false) = some r := by rw [if_pos rfl] at H; exact H
               clear H
               have H := H1
               clear H1
               obtain rfl := Option.some.inj H
               go_wp2
               go_ret
               exact ⟨by first | rfl | (simp [errW_none, errW_some] <;> rfl) | (simp [*, errW_none, errW_some] <;> rfl), by repeat (first | (with_reducible first | exact HB.out | apply below_alloc | apply pw_below_drewN | apply below_drew1) | exact HB.out)⟩
              ·replace c31 := Bool.eq_false_iff.mpr c31
               subst c31
               have H1 : (if 0 ≤ ((rd_T38 t122 x7_2).f4) then (if ((rd_T38 t122 x7_2).f4) < (x5_2.length : Int) then (if 0 ≤ x7_2 then (if x7_2 < (x5_2.length : Int) then ((some (x5_2.set (x7_2 : Int).toNat (wrap64 ((rd x5_2 ((rd_T38 t122 x7_2).f4)) + 1)) : List Int)).bind fun y138 => (if (rd y138 x7_2) > 33 then (stolelaw7_TreeShapes.j3 kj23 l0 t122 y138 x6_2 x7_2 true) else (if x7_2 < (t122.length : Int) then (if ((rd_T38 t122 x7_2).f0) = 2 then (if 0 ≤ (wrap64 (x7_2 - 1)) then (if (wrap64 (x7_2 - 1)) < (t122.length : Int) then (if ((rd_T38 t122 (wrap64 (x7_2 - 1))).f0) = 2 then (stolelaw7_TreeShapes.j3 kj23 l0 t122 y138 x6_2 x7_2 (((rd_T38 t122 (wrap64 (x7_2 - 1))).f4) == ((rd_T38 t122 x7_2).f4))) else (stolelaw7_TreeShapes.j3 kj23 l0 t122 y138 x6_2 x7_2 false)) else (none)) else (none)) else (stolelaw7_TreeShapes.j3 kj23 l0 t122 y138 x6_2 x7_2 false)) else (none)))) else (none)) else (none)) else (none)) else (none)) = some r := by rw [if_neg (show ¬ (false = true) by decide)] at H; exact H
               clear H
               have H := H1
               clear H1
               by_cases c32 : 0 ≤ ((rd_T38 t122 x7_2).f4)
               ·rw [if_pos c32] at H
                have c32b0 : decide (0 ≤ ((rd_T38 t122 x7_2).f4)) = true := decide_eq_true c32
                clear c32
                by_cases c33 : ((rd_T38 t122 x7_2).f4) < (x5_2.length : Int)
                ·rw [if_pos c33] at H
                 have c33b0 : decide (((rd_T38 t122 x7_2).f4) < (x5_2.length : Int)) = true := decide_eq_true c33
                 clear c33
                 by_cases c34 : 0 ≤ x7_2
                 ·rw [if_pos c34] at H
                  have c34b0 : decide (0 ≤ x7_2) = true := decide_eq_true c34
                  clear c34
                  by_cases c35 : x7_2 < (x5_2.length : Int)
                  ·rw [if_pos c35] at H
                   have c35b0 : decide (x7_2 < (x5_2.length : Int)) = true := decide_eq_true c35
                   clear c35
                   obtain ⟨y138, hy138⟩ : ∃ y_ : List Int, y_ = (x5_2.set (x7_2 : Int).toNat (wrap64 ((rd x5_2 ((rd_T38 t122 x7_2).f4)) + 1))) := ⟨_, rfl⟩
                   replace H : (if (rd y138 x7_2) > 33 then (stolelaw7_TreeShapes.j3 kj23 l0 t122 y138 x6_2 x7_2 true) else (if x7_2 < (t122.length : Int) then (if ((rd_T38 t122 x7_2).f0) = 2 then (if 0 ≤ (wrap64 (x7_2 - 1)) then (if (wrap64 (x7_2 - 1)) < (t122.length : Int) then (if ((rd_T38 t122 (wrap64 (x7_2 - 1))).f0) = 2 then (stolelaw7_TreeShapes.j3 kj23 l0 t122 y138 x6_2 x7_2 (((rd_T38 t122 (wrap64 (x7_2 - 1))).f4) == ((rd_T38 t122 x7_2).f4))) else (stolelaw7_TreeShapes.j3 kj23 l0 t122 y138 x6_2 x7_2 false)) else (none)) else (none)) else (stolelaw7_TreeShapes.j3 kj23 l0 t122 y138 x6_2 x7_2 false)) else (none))) = some r := by first | (rw [hy138]; with_reducible exact H) | (have H2_ := (Option.bind_some _ _).symm.trans H; rw [hy138]; with_reducible exact H2_) | (have H2_ := (Option.bind_some _ _).symm.trans H; with_reducible exact H2_) | with_reducible exact H | (rw [hy138]; exact H) | exact H
                   have Ny138 := Aside0.mk hy138
                   clear hy138
                   have HC37 := Aside0.mk H
                   clear H
                   obtain ⟨Ao38, co38, eo38⟩ := Kd.R_slice HO_5.out
                   subst eo38
                   have p137 : 0 ≤ (((rd_T38 t122 x7_2).f4) : Int) := of_decide_eq_true (by first | (with_reducible assumption) | assumption)
                   have q137 : ((rd_T38 t122 x7_2).f4) < (x5_2.length : Int) := of_decide_eq_true (by first | (with_reducible assumption) | assumption)
                   obtain ⟨ad137, e137, hx137_0⟩ := Kd.at_int (Kd.R_reads' HO_5.out).2.2 ((rd_T38 t122 x7_2).f4) p137 q137
                   cases e137
                   replace p137 := eq_true p137
                   replace q137 := eq_true q137
                   have p36 : 0 ≤ (x7_2 : Int) := of_decide_eq_true (by first | (with_reducible assumption) | assumption)
                   have q36 : (x7_2 : Int) < ((x5_2.length : Int) : Int) := of_decide_eq_true (by first | (with_reducible assumption) | assumption)
                   obtain ⟨go36, co36, eo36, gb36, gl36, cl36, HG36⟩ := Kd.R_form HO_5.out (by omega)
                   (first | cases eo36 | (injection eo36 with ea_ en_ ec_; (first | subst ea_ | (injection ea_ with ea_; subst ea_)); subst ec_; clear en_))
                   have GB36 := Aside0.mk gb36
                   have GG36 := Aside0.mk HG36
                   clear gb36 gl36 HG36
                   (first | simp only [add_plain] at hx137_0 | skip)
                   obtain ⟨hx36_0, hf36_0⟩ := Kd.R_celln 0 HO_5.out (x7_2 : Int) p36 q36
                   replace p36 := eq_true p36
                   replace q36 := eq_true q36
                   have HP39 := Kd.R_putg HO_5.out (x7_2 : Int) (wrap64 ((rd x5_2 ((rd_T38 t122 x7_2).f4)) + 1))
                   go_upto_region 17 with (first | ((with_reducible refine gate_store (t := 3) (p := 96) rfl ?_); refine store_event (t := 3) (p := 96) (v := ?vo_w40) (w1 := (wc.setCell ⟨go36, (x7_2 : Int).toNat, none⟩ (.int .i64 (wrap64 ((rd x5_2 ((rd_T38 t122 x7_2).f4)) + 1))))) ?hg ?ho ?hn ?hr ?_; (case ho => rfl); (case hg => rfl); (case hn => rfl); (case hr => first | (go_simp; done) | (go_simp; rfl)); intro w40 hw; have hg : wc.grownBy w40 (some go36) := (by rw [hw]; exact HP39.2); have hp_ : Kd.R (Kd.int .i64) 3 w40 w.heap.size (fun _ => True) (.slice (some ⟨go36, 0, none⟩) x5_2.length co38) y138 := (by rw [hw, Ny138.out]; exact HP39.1); clear HP39; have n0_ := Aside0.mk (Kd.S_over' (v := (.slice (some ⟨go36, 0, none⟩) x5_2.length co38)) (by (with_reducible repeat (first | apply Kd.S_alloc | apply Kd.S_drewN | apply Kd.S_drew)); exact HO_3.out) (Kd.R_typed HO_5.out) (by decide) hg); have n1_ := Aside0.mk (hp_); have n2_ := Aside0.mk ((by rw [hw]; exact below_set (HB.out) GB36.out : Below w.heap.size w w40)); clear HO_3; clear HO_5; clear HB; have HO_3 := n0_; have HO_5 := n1_; have HB := n2_; clear n0_ n1_ n2_; clear hg hw hp_))
                   (try simp only [Act.put, List.setIfInBounds_toArray, List.set_cons_zero, List.set_cons_succ])
                   go_cut [128] (fun v128 wc => ∃ (kq : Nat) (x128_36 : Bool), v128 = .bool x128_36 ∧ Aside0 (stolelaw7_TreeShapes.j3 kq l0 t122 y138 x6_2 x7_2 x128_36 = some r) ∧ Aside0 (kq ≤ kj23) ∧ Aside0 (Kd.S k38 38 wc w.heap.size (fun _ => True) (.slice (some ad132) t122.length co19) t122) ∧ Aside0 (Kd.R (Kd.int .i64) 3 wc w.heap.size (fun _ => True) (.slice (some ⟨go36, 0, none⟩) x5_2.length co38) y138) ∧ Aside0 (Below w.heap.size w wc))
                   case first =>
                    have H := HC37.out
                    clear HC37
                    by_cases c41 : (rd y138 x7_2) > 33
                    ·rw [if_pos c41] at H
                     have c41b0 : decide (33 < (rd y138 x7_2)) = true := decide_eq_true c41
                     clear c41
                     (first | rw [c41b0] | (simp only [i64_w, i32_w]; rw [c41b0]) | skip)
                     have H' := Aside0.mk H
                     clear H
                     have p139 : 0 ≤ (x7_2 : Int) := of_decide_eq_true (by first | (with_reducible assumption) | assumption)
                     have q139 : x7_2 < (y138.length : Int) := (by have h_ : (x7_2 : Int) < ((x5_2.length : Int) : Int) := of_decide_eq_true (by first | (with_reducible assumption) | assumption); first | (have e_ := (Kd.R_reads' HO_5.out).1; omega) | simpa only [Ny138.out, List.length_set] using h_)
                     have ql139 : ((x7_2 : Int) < ((x5_2.length : Int) : Int)) = True := eq_true (of_decide_eq_true (by first | (with_reducible assumption) | assumption))
                     obtain ⟨ad139, e139, hx139_0⟩ := Kd.at_int (Kd.R_reads' HO_5.out).2.2 x7_2 p139 q139
                     obtain rfl : (⟨go36, 0, none⟩ : Addr) = ad139 := (by injection e139)
                     (first | simp only [add_plain] at hx139_0 | simp only [add_at] at hx139_0 | simp only [Addr.add, Nat.zero_add] at hx139_0 | skip)
                     replace p139 := eq_true p139
                     replace q139 := eq_true q139
                     go_wp2
                     go_meet
                     case rel => exact ⟨_, (true), (by first | rfl | (simp; done) | (simp [*]; done)), H', ⟨by have := HJ6.out; have := HK2.out; have := HJ23.out; first | omega | exact Nat.le_refl _⟩, ⟨by (with_reducible repeat (first | apply Kd.S_alloc | apply Kd.S_drewN | apply Kd.S_drew)); exact HO_3.out⟩, ⟨by (with_reducible repeat (first | apply Kd.R_alloc | apply Kd.R_drewN | apply Kd.R_drew)); exact HO_5.out⟩, ⟨by repeat (first | (with_reducible first | exact HB.out | apply below_alloc | apply pw_below_drewN | apply below_drew1) | exact HB.out)⟩⟩
                    ·rw [if_neg c41] at H
                     have c41b0 : decide (33 < (rd y138 x7_2)) = false := decide_eq_false c41
                     clear c41
                     (first | rw [c41b0] | (simp only [i64_w, i32_w]; rw [c41b0]) | skip)
                     by_cases c42 : x7_2 < (t122.length : Int)
                     ·rw [if_pos c42] at H
                      have c42b0 : decide (x7_2 < (t122.length : Int)) = true := decide_eq_true c42
                      clear c42
                      by_cases c43 : ((rd_T38 t122 x7_2).f0) = 2
                      ·rw [if_pos c43] at H
                       have c43b0 : (((rd_T38 t122 x7_2).f0) == 2) = true := beq_iff_eq.mpr c43
                       have c43b1 : (((rd_T38 t122 x7_2).f0) != 2) = false := bne_eq_false_iff_eq.mpr c43
                       clear c43
                       obtain ⟨ji44, hji44⟩ : ∃ j_ : Int, (wrap64 (x7_2 - 1)) = j_ := ⟨_, rfl⟩
                       replace H : (if 0 ≤ (ji44) then (if (ji44) < (t122.length : Int) then (if ((rd_T38 t122 (ji44)).f0) = 2 then (stolelaw7_TreeShapes.j3 kj23 l0 t122 y138 x6_2 x7_2 (((rd_T38 t122 (ji44)).f4) == ((rd_T38 t122 x7_2).f4))) else (stolelaw7_TreeShapes.j3 kj23 l0 t122 y138 x6_2 x7_2 false)) else (none)) else (none)) = some r := by first | (rw [hji44] at H; exact H) | (simp only [hji44] at H ⊢; exact H)
                       have hji44w : (IntKind.i64.wrap (x7_2 - 1)) = ji44 := (i64_w _).trans hji44
                       by_cases c45 : 0 ≤ (ji44)
                       ·rw [if_pos c45] at H
                        have c45b0 : decide (0 ≤ (ji44)) = true := decide_eq_true c45
                        clear c45
                        by_cases c46 : (ji44) < (t122.length : Int)
                        ·rw [if_pos c46] at H
                         have c46b0 : decide ((ji44) < (t122.length : Int)) = true := decide_eq_true c46
                         clear c46
                         by_cases c47 : ((rd_T38 t122 (ji44)).f0) = 2
                         ·rw [if_pos c47] at H
                          have c47b0 : (((rd_T38 t122 (ji44)).f0) == 2) = true := beq_iff_eq.mpr c47
                          have c47b1 : (((rd_T38 t122 (ji44)).f0) != 2) = false := bne_eq_false_iff_eq.mpr c47
                          clear c47
                          have H' := Aside0.mk H
                          clear H
                          have p139 : 0 ≤ (x7_2 : Int) := of_decide_eq_true (by first | (with_reducible assumption) | assumption)
                          have q139 : x7_2 < (y138.length : Int) := (by have h_ : (x7_2 : Int) < ((x5_2.length : Int) : Int) := of_decide_eq_true (by first | (with_reducible assumption) | assumption); first | (have e_ := (Kd.R_reads' HO_5.out).1; omega) | simpa only [Ny138.out, List.length_set] using h_)
                          have ql139 : ((x7_2 : Int) < ((x5_2.length : Int) : Int)) = True := eq_true (of_decide_eq_true (by first | (with_reducible assumption) | assumption))
                          obtain ⟨ad139, e139, hx139_0⟩ := Kd.at_int (Kd.R_reads' HO_5.out).2.2 x7_2 p139 q139
                          obtain rfl : (⟨go36, 0, none⟩ : Addr) = ad139 := (by injection e139)
                          (first | simp only [add_plain] at hx139_0 | simp only [add_at] at hx139_0 | simp only [Addr.add, Nat.zero_add] at hx139_0 | skip)
                          replace p139 := eq_true p139
                          replace q139 := eq_true q139
                          have p140 : 0 ≤ (x7_2 : Int) := of_decide_eq_true (by first | (with_reducible assumption) | assumption)
                          have q140 : x7_2 < (t122.length : Int) := of_decide_eq_true (by first | (with_reducible assumption) | assumption)
                          obtain ⟨ad140, A140_3, c140_3, e140, hx140_0, hx140_1, hx140_2, hx140_3, hx140_4, hl140_3, hi140_3⟩ := at_T38 (Kd.S_reads' HO_3.out).2.2 x7_2 p140 q140
                          obtain rfl : ad132 = ad140 := (by injection e140)
                          obtain ⟨ce140, hce140, hMe140, hcc140⟩ := Kd.S_get HO_3.out z38 x7_2 p140 (by first | exact q140 | exact of_decide_eq_true (by first | (with_reducible assumption) | assumption) | (have e_ := (Kd.S_reads' HO_3.out).1; omega))
                          obtain ⟨ve140_3, rfl, ge140_3⟩ := k38_openM hMe140
                          have hv140_3 := hcc140 3 _ rfl
                          rw [add_field _ _ 3 (by omega)] at hv140_3
                          replace hv140_3 := Option.some.inj (hv140_3.symm.trans hx140_3)
                          rw [hv140_3] at ge140_3
                          have HL140_3 := Aside0.mk (show Kd.R k48 48 _ _ _ _ ((rd_T38 t122 x7_2).f3) from ge140_3)
                          clear hv140_3 ge140_3
                          clear hcc140 hce140
                          have HR140_3 := Aside0.mk hi140_3
                          have HC140_3 := Aside0.mk hl140_3
                          clear hi140_3 hl140_3
                          replace p140 := eq_true p140
                          replace q140 := eq_true q140
                          have p141 : 0 ≤ ((ji44) : Int) := of_decide_eq_true (by first | (with_reducible assumption) | assumption)
                          have q141 : (ji44) < (t122.length : Int) := of_decide_eq_true (by first | (with_reducible assumption) | assumption)
                          obtain ⟨ad141, A141_3, c141_3, e141, hx141_0, hx141_1, hx141_2, hx141_3, hx141_4, hl141_3, hi141_3⟩ := at_T38 (Kd.S_reads' HO_3.out).2.2 (ji44) p141 q141
                          obtain rfl : ad132 = ad141 := (by injection e141)
                          obtain ⟨ce141, hce141, hMe141, hcc141⟩ := Kd.S_get HO_3.out z38 (ji44) p141 (by first | exact q141 | exact of_decide_eq_true (by first | (with_reducible assumption) | assumption) | (have e_ := (Kd.S_reads' HO_3.out).1; omega))
                          obtain ⟨ve141_3, rfl, ge141_3⟩ := k38_openM hMe141
                          have hv141_3 := hcc141 3 _ rfl
                          rw [add_field _ _ 3 (by omega)] at hv141_3
                          replace hv141_3 := Option.some.inj (hv141_3.symm.trans hx141_3)
                          rw [hv141_3] at ge141_3
                          have HL141_3 := Aside0.mk (show Kd.R k48 48 _ _ _ _ ((rd_T38 t122 (ji44)).f3) from ge141_3)
                          clear hv141_3 ge141_3
                          clear hcc141 hce141
                          have HR141_3 := Aside0.mk hi141_3
                          have HC141_3 := Aside0.mk hl141_3
                          clear hi141_3 hl141_3
                          replace p141 := eq_true p141
                          replace q141 := eq_true q141
                          have p142 : 0 ≤ ((ji44) : Int) := of_decide_eq_true (by first | (with_reducible assumption) | assumption)
                          have q142 : (ji44) < (t122.length : Int) := of_decide_eq_true (by first | (with_reducible assumption) | assumption)
                          obtain ⟨ad142, A142_3, c142_3, e142, hx142_0, hx142_1, hx142_2, hx142_3, hx142_4, hl142_3, hi142_3⟩ := at_T38 (Kd.S_reads' HO_3.out).2.2 (ji44) p142 q142
                          obtain rfl : ad132 = ad142 := (by injection e142)
                          obtain ⟨ce142, hce142, hMe142, hcc142⟩ := Kd.S_get HO_3.out z38 (ji44) p142 (by first | exact q142 | exact of_decide_eq_true (by first | (with_reducible assumption) | assumption) | (have e_ := (Kd.S_reads' HO_3.out).1; omega))
                          obtain ⟨ve142_3, rfl, ge142_3⟩ := k38_openM hMe142
                          have hv142_3 := hcc142 3 _ rfl
                          rw [add_field _ _ 3 (by omega)] at hv142_3
                          replace hv142_3 := Option.some.inj (hv142_3.symm.trans hx142_3)
                          rw [hv142_3] at ge142_3
                          have HL142_3 := Aside0.mk (show Kd.R k48 48 _ _ _ _ ((rd_T38 t122 (ji44)).f3) from ge142_3)
                          clear hv142_3 ge142_3
                          clear hcc142 hce142
                          have HR142_3 := Aside0.mk hi142_3
                          have HC142_3 := Aside0.mk hl142_3
                          clear hi142_3 hl142_3
                          replace p142 := eq_true p142
                          replace q142 := eq_true q142
                          have ea_ := Option.some.inj (hx141_3.symm.trans hx142_3)
                          injection ea_ with ea_ en_ ec_
                          subst ea_
                          subst ec_
                          clear en_
                          go_wp2
                          go_meet
                          case rel => exact ⟨_, ((((rd_T38 t122 (ji44)).f4) == ((rd_T38 t122 x7_2).f4))), (by first | rfl | (simp; done) | (simp only [← hji44] <;> (first | rfl | simp)) | (simp [*]; done)), H', ⟨by have := HJ6.out; have := HK2.out; have := HJ23.out; first | omega | exact Nat.le_refl _⟩, ⟨by (with_reducible repeat (first | apply Kd.S_alloc | apply Kd.S_drewN | apply Kd.S_drew)); exact HO_3.out⟩, ⟨by (with_reducible repeat (first | apply Kd.R_alloc | apply Kd.R_drewN | apply Kd.R_drew)); exact HO_5.out⟩, ⟨by repeat (first | (with_reducible first | exact HB.out | apply below_alloc | apply pw_below_drewN | apply below_drew1) | exact HB.out)⟩⟩
                         ·rw [if_neg c47] at H
                          have c47b0 : (((rd_T38 t122 (ji44)).f0) == 2) = false := beq_eq_false_iff_ne.mpr c47
                          have c47b1 : (((rd_T38 t122 (ji44)).f0) != 2) = true := bne_iff_ne.mpr c47
                          have H' := Aside0.mk H
                          clear H
                          have p139 : 0 ≤ (x7_2 : Int) := of_decide_eq_true (by first | (with_reducible assumption) | assumption)
                          have q139 : x7_2 < (y138.length : Int) := (by have h_ : (x7_2 : Int) < ((x5_2.length : Int) : Int) := of_decide_eq_true (by first | (with_reducible assumption) | assumption); first | (have e_ := (Kd.R_reads' HO_5.out).1; omega) | simpa only [Ny138.out, List.length_set] using h_)
                          have ql139 : ((x7_2 : Int) < ((x5_2.length : Int) : Int)) = True := eq_true (of_decide_eq_true (by first | (with_reducible assumption) | assumption))
                          obtain ⟨ad139, e139, hx139_0⟩ := Kd.at_int (Kd.R_reads' HO_5.out).2.2 x7_2 p139 q139
                          obtain rfl : (⟨go36, 0, none⟩ : Addr) = ad139 := (by injection e139)
                          (first | simp only [add_plain] at hx139_0 | simp only [add_at] at hx139_0 | simp only [Addr.add, Nat.zero_add] at hx139_0 | skip)
                          replace p139 := eq_true p139
                          replace q139 := eq_true q139
                          have p140 : 0 ≤ (x7_2 : Int) := of_decide_eq_true (by first | (with_reducible assumption) | assumption)
                          have q140 : x7_2 < (t122.length : Int) := of_decide_eq_true (by first | (with_reducible assumption) | assumption)
                          obtain ⟨ad140, A140_3, c140_3, e140, hx140_0, hx140_1, hx140_2, hx140_3, hx140_4, hl140_3, hi140_3⟩ := at_T38 (Kd.S_reads' HO_3.out).2.2 x7_2 p140 q140
                          obtain rfl : ad132 = ad140 := (by injection e140)
                          obtain ⟨ce140, hce140, hMe140, hcc140⟩ := Kd.S_get HO_3.out z38 x7_2 p140 (by first | exact q140 | exact of_decide_eq_true (by first | (with_reducible assumption) | assumption) | (have e_ := (Kd.S_reads' HO_3.out).1; omega))
                          obtain ⟨ve140_3, rfl, ge140_3⟩ := k38_openM hMe140
                          have hv140_3 := hcc140 3 _ rfl
                          rw [add_field _ _ 3 (by omega)] at hv140_3
                          replace hv140_3 := Option.some.inj (hv140_3.symm.trans hx140_3)
                          rw [hv140_3] at ge140_3
                          have HL140_3 := Aside0.mk (show Kd.R k48 48 _ _ _ _ ((rd_T38 t122 x7_2).f3) from ge140_3)
                          clear hv140_3 ge140_3
                          clear hcc140 hce140
                          have HR140_3 := Aside0.mk hi140_3
                          have HC140_3 := Aside0.mk hl140_3
                          clear hi140_3 hl140_3
                          replace p140 := eq_true p140
                          replace q140 := eq_true q140
                          have p141 : 0 ≤ ((ji44) : Int) := of_decide_eq_true (by first | (with_reducible assumption) | assumption)
                          have q141 : (ji44) < (t122.length : Int) := of_decide_eq_true (by first | (with_reducible assumption) | assumption)
                          obtain ⟨ad141, A141_3, c141_3, e141, hx141_0, hx141_1, hx141_2, hx141_3, hx141_4, hl141_3, hi141_3⟩ := at_T38 (Kd.S_reads' HO_3.out).2.2 (ji44) p141 q141
                          obtain rfl : ad132 = ad141 := (by injection e141)
                          obtain ⟨ce141, hce141, hMe141, hcc141⟩ := Kd.S_get HO_3.out z38 (ji44) p141 (by first | exact q141 | exact of_decide_eq_true (by first | (with_reducible assumption) | assumption) | (have e_ := (Kd.S_reads' HO_3.out).1; omega))
                          obtain ⟨ve141_3, rfl, ge141_3⟩ := k38_openM hMe141
                          have hv141_3 := hcc141 3 _ rfl
                          rw [add_field _ _ 3 (by omega)] at hv141_3
                          replace hv141_3 := Option.some.inj (hv141_3.symm.trans hx141_3)
                          rw [hv141_3] at ge141_3
                          have HL141_3 := Aside0.mk (show Kd.R k48 48 _ _ _ _ ((rd_T38 t122 (ji44)).f3) from ge141_3)
                          clear hv141_3 ge141_3
                          clear hcc141 hce141
                          have HR141_3 := Aside0.mk hi141_3
                          have HC141_3 := Aside0.mk hl141_3
                          clear hi141_3 hl141_3
                          replace p141 := eq_true p141
                          replace q141 := eq_true q141
                          go_wp2
                          go_meet
                          case rel => exact ⟨_, (false), (by first | rfl | (simp; done) | (simp [*]; done)), H', ⟨by have := HJ6.out; have := HK2.out; have := HJ23.out; first | omega | exact Nat.le_refl _⟩, ⟨by (with_reducible repeat (first | apply Kd.S_alloc | apply Kd.S_drewN | apply Kd.S_drew)); exact HO_3.out⟩, ⟨by (with_reducible repeat (first | apply Kd.R_alloc | apply Kd.R_drewN | apply Kd.R_drew)); exact HO_5.out⟩, ⟨by repeat (first | (with_reducible first | exact HB.out | apply below_alloc | apply pw_below_drewN | apply below_drew1) | exact HB.out)⟩⟩
                        ·rw [if_neg c46] at H
                         exact absurd H (by simp)
                       ·rw [if_neg c45] at H
                        exact absurd H (by simp)
                      ·rw [if_neg c43] at H
                       have c43b0 : (((rd_T38 t122 x7_2).f0) == 2) = false := beq_eq_false_iff_ne.mpr c43
                       have c43b1 : (((rd_T38 t122 x7_2).f0) != 2) = true := bne_iff_ne.mpr c43
                       have H' := Aside0.mk H
                       clear H
                       have p139 : 0 ≤ (x7_2 : Int) := of_decide_eq_true (by first | (with_reducible assumption) | assumption)
                       have q139 : x7_2 < (y138.length : Int) := (by have h_ : (x7_2 : Int) < ((x5_2.length : Int) : Int) := of_decide_eq_true (by first | (with_reducible assumption) | assumption); first | (have e_ := (Kd.R_reads' HO_5.out).1; omega) | simpa only [Ny138.out, List.length_set] using h_)
                       have ql139 : ((x7_2 : Int) < ((x5_2.length : Int) : Int)) = True := eq_true (of_decide_eq_true (by first | (with_reducible assumption) | assumption))
                       obtain ⟨ad139, e139, hx139_0⟩ := Kd.at_int (Kd.R_reads' HO_5.out).2.2 x7_2 p139 q139
                       obtain rfl : (⟨go36, 0, none⟩ : Addr) = ad139 := (by injection e139)
                       (first | simp only [add_plain] at hx139_0 | simp only [add_at] at hx139_0 | simp only [Addr.add, Nat.zero_add] at hx139_0 | skip)
                       replace p139 := eq_true p139
                       replace q139 := eq_true q139
                       have p140 : 0 ≤ (x7_2 : Int) := of_decide_eq_true (by first | (with_reducible assumption) | assumption)
                       have q140 : x7_2 < (t122.length : Int) := of_decide_eq_true (by first | (with_reducible assumption) | assumption)
                       obtain ⟨ad140, A140_3, c140_3, e140, hx140_0, hx140_1, hx140_2, hx140_3, hx140_4, hl140_3, hi140_3⟩ := at_T38 (Kd.S_reads' HO_3.out).2.2 x7_2 p140 q140
                       obtain rfl : ad132 = ad140 := (by injection e140)
                       obtain ⟨ce140, hce140, hMe140, hcc140⟩ := Kd.S_get HO_3.out z38 x7_2 p140 (by first | exact q140 | exact of_decide_eq_true (by first | (with_reducible assumption) | assumption) | (have e_ := (Kd.S_reads' HO_3.out).1; omega))
                       obtain ⟨ve140_3, rfl, ge140_3⟩ := k38_openM hMe140
                       have hv140_3 := hcc140 3 _ rfl
                       rw [add_field _ _ 3 (by omega)] at hv140_3
                       replace hv140_3 := Option.some.inj (hv140_3.symm.trans hx140_3)
                       rw [hv140_3] at ge140_3
                       have HL140_3 := Aside0.mk (show Kd.R k48 48 _ _ _ _ ((rd_T38 t122 x7_2).f3) from ge140_3)
                       clear hv140_3 ge140_3
                       clear hcc140 hce140
                       have HR140_3 := Aside0.mk hi140_3
                       have HC140_3 := Aside0.mk hl140_3
                       clear hi140_3 hl140_3
                       replace p140 := eq_true p140
                       replace q140 := eq_true q140
                       go_wp2
                       go_meet
                       case rel => exact ⟨_, (false), (by first | rfl | (simp; done) | (simp [*]; done)), H', ⟨by have := HJ6.out; have := HK2.out; have := HJ23.out; first | omega | exact Nat.le_refl _⟩, ⟨by (with_reducible repeat (first | apply Kd.S_alloc | apply Kd.S_drewN | apply Kd.S_drew)); exact HO_3.out⟩, ⟨by (with_reducible repeat (first | apply Kd.R_alloc | apply Kd.R_drewN | apply Kd.R_drew)); exact HO_5.out⟩, ⟨by repeat (first | (with_reducible first | exact HB.out | apply below_alloc | apply pw_below_drewN | apply below_drew1) | exact HB.out)⟩⟩
                     ·rw [if_neg c42] at H
                      exact absurd H (by simp)
                   case rest =>
                    clear HC37
                    try clear c1
                    try clear p1
                    try clear q1
                    try clear hx1
                    try clear qi1
                    try clear c2
                    try clear p2
                    try clear c3
                    try clear p3
                    try clear q3
                    try clear hx3
                    try clear hf3
                    try clear c4
                    try clear c6
                    try clear c6b0
                    try clear c6b1
                    try clear p6
                    try clear c9
                    try clear c10
                    try clear c10b0
                    try clear c10b1
                    try clear c10b2
                    try clear c12
                    try clear c12b0
                    try clear c12b1
                    try clear p12
                    try clear q12
                    try clear hx12
                    try clear qi12
                    try clear c13
                    try clear c13b0
                    try clear c13b1
                    try clear p13
                    try clear q13
                    try clear hx13
                    try clear c14
                    try clear p14
                    try clear q14
                    try clear hx14
                    try clear c15
                    try clear c16
                    try clear c17
                    try clear c17b0
                    try clear c17b1
                    try clear c18
                    try clear c18b0
                    try clear c18b1
                    try clear c22
                    try clear c22b0
                    try clear c23
                    try clear c23b0
                    try clear c25
                    try clear c25b0
                    try clear c26
                    try clear c26b0
                    try clear c27
                    try clear c27b0
                    try clear c28
                    try clear c28b0
                    try clear c29
                    try clear c29b0
                    try clear c29b1
                    try clear c30
                    try clear c30b0
                    try clear c30b1
                    try clear c31
                    try clear c32
                    try clear c32b0
                    try clear c33
                    try clear c33b0
                    try clear c34
                    try clear c34b0
                    try clear c35
                    try clear c35b0
                    try clear p36
                    try clear q36
                    try clear hx36
                    try clear hf36
                    try clear c41
                    try clear c41b0
                    try clear c42
                    try clear c42b0
                    try clear c43
                    try clear c43b0
                    try clear c43b1
                    try clear c45
                    try clear c45b0
                    try clear c46
                    try clear c46b0
                    try clear c47
                    try clear c47b0
                    try clear c47b1
                    try clear hx127_0
                    try clear hx127_1
                    try clear hx127_2
                    try clear hx127_3
                    try clear hx127_4
                    try clear hx128_0
                    try clear hx128_1
                    try clear hx128_2
                    try clear hx128_3
                    try clear hx128_4
                    try clear hx132_0
                    try clear hx132_1
                    try clear hx132_2
                    try clear hx132_3
                    try clear hx132_4
                    try clear hx133_0
                    try clear hx133_1
                    try clear hx133_2
                    try clear hx133_3
                    try clear hx133_4
                    try clear hx134_0
                    try clear hx134_1
                    try clear hx134_2
                    try clear hx134_3
                    try clear hx134_4
                    try clear hx135_0
                    try clear hx135_1
                    try clear hx135_2
                    try clear hx135_3
                    try clear hx135_4
                    try clear hx136_0
                    try clear hx136_1
                    try clear hx136_2
                    try clear hx136_3
                    try clear hx136_4
                    try clear hx137_0
                    try clear hx139_0
                    try clear hx140_0
                    try clear hx140_1
                    try clear hx140_2
                    try clear hx140_3
                    try clear hx140_4
                    try clear hx141_0
                    try clear hx141_1
                    try clear hx141_2
                    try clear hx141_3
                    try clear hx141_4
                    try clear hx142_0
                    try clear hx142_1
                    try clear hx142_2
                    try clear hx142_3
                    try clear hx142_4
                    try clear hx36_0
                    try clear p1
                    try clear p12
                    try clear p127
                    try clear p128
                    try clear p13
                    try clear p132
                    try clear p133
                    try clear p134
                    try clear p135
                    try clear p136
                    try clear p137
                    try clear p139
                    try clear p140
                    try clear p141
                    try clear p142
                    try clear p2
                    try clear p36
                    try clear q1
                    try clear q12
                    try clear q127
                    try clear q128
                    try clear q13
                    try clear q132
                    try clear q133
                    try clear q134
                    try clear q135
                    try clear q136
                    try clear q137
                    try clear q139
                    try clear q140
                    try clear q141
                    try clear q142
                    try clear q36
                    obtain ⟨kq, x128_36, rfl, HA, HJ36, HO_3, HO_5, HB⟩ := hcut
                    have hl5_36 := (Kd.R_reads' HO_5.out).1
                    rw [hl5_36] at HO_5
                    (try simp only [hl5_36])
                    (try simp only [hl5_36] at HO_3)
                    cases kq with
                    | zero => exact absurd HA.out (by simp [stolelaw7_TreeShapes.j3])
                    | succ kj36 =>
                     have H := HA.out
                     clear HA
                     simp only [stolelaw7_TreeShapes.j3] at H
                     by_cases c48 : x128_36 = true
                     ·subst c48
                      have H1 : (some false) = some r := by rw [if_pos rfl] at H; exact H
                      clear H
                      have H := H1
                      clear H1
                      obtain rfl := Option.some.inj H
                      go_wp2
                      go_ret
                      exact ⟨by first | rfl | (simp [errW_none, errW_some] <;> rfl) | (simp [*, errW_none, errW_some] <;> rfl), by repeat (first | (with_reducible first | exact HB.out | apply below_alloc | apply pw_below_drewN | apply below_drew1) | exact HB.out)⟩
                     ·replace c48 := Bool.eq_false_iff.mpr c48
                      subst c48
                      have H1 : (if 0 ≤ x7_2 then (if x7_2 < (t122.length : Int) then (if ((rd_T38 t122 x7_2).f0) = 2 then (if x6_2.size + ((rd_T38 t122 x7_2).f2).size ≤ 9223372036854775807 then (stolelaw7_TreeShapes.l0 kj36 l0 t122 y138 (x6_2 ++ ((rd_T38 t122 x7_2).f2)) (wrap64 (x7_2 + 1))) else (none)) else (stolelaw7_TreeShapes.l0 kj36 l0 t122 y138 x6_2 (wrap64 (x7_2 + 1)))) else (none)) else (none)) = some r := by rw [if_neg (show ¬ (false = true) by decide)] at H; exact H
                      clear H
                      have H := H1
                      clear H1
                      by_cases c49 : 0 ≤ x7_2
                      ·rw [if_pos c49] at H
                       have c49b0 : decide (0 ≤ x7_2) = true := decide_eq_true c49
                       clear c49
                       by_cases c50 : x7_2 < (t122.length : Int)
                       ·rw [if_pos c50] at H
                        have c50b0 : decide (x7_2 < (t122.length : Int)) = true := decide_eq_true c50
                        clear c50
                        by_cases c51 : ((rd_T38 t122 x7_2).f0) = 2
                        ·rw [if_pos c51] at H
                         have c51b0 : (((rd_T38 t122 x7_2).f0) == 2) = true := beq_iff_eq.mpr c51
                         have c51b1 : (((rd_T38 t122 x7_2).f0) != 2) = false := bne_eq_false_iff_eq.mpr c51
                         clear c51
                         by_cases c52 : x6_2.size + ((rd_T38 t122 x7_2).f2).size ≤ 9223372036854775807
                         ·rw [if_pos c52] at H
                          have c52b0 := eq_true c52
                          have c52b1 : decide (x6_2.size + ((rd_T38 t122 x7_2).f2).size ≤ 9223372036854775807) = true := decide_eq_true c52
                          try have c52b2 : (9223372036854775807 < x6_2.size + ((rd_T38 t122 x7_2).f2).size) = False := eq_false (Nat.not_lt.2 c52)
                          have H' := Aside0.mk H
                          clear H
                          have p143 : 0 ≤ (x7_2 : Int) := of_decide_eq_true (by first | (with_reducible assumption) | assumption)
                          have q143 : x7_2 < (t122.length : Int) := of_decide_eq_true (by first | (with_reducible assumption) | assumption)
                          obtain ⟨ad143, A143_3, c143_3, e143, hx143_0, hx143_1, hx143_2, hx143_3, hx143_4, hl143_3, hi143_3⟩ := at_T38 (Kd.S_reads' HO_3.out).2.2 x7_2 p143 q143
                          obtain rfl : ad132 = ad143 := (by injection e143)
                          obtain ⟨ce143, hce143, hMe143, hcc143⟩ := Kd.S_get HO_3.out z38 x7_2 p143 (by first | exact q143 | exact of_decide_eq_true (by first | (with_reducible assumption) | assumption) | (have e_ := (Kd.S_reads' HO_3.out).1; omega))
                          obtain ⟨ve143_3, rfl, ge143_3⟩ := k38_openM hMe143
                          have hv143_3 := hcc143 3 _ rfl
                          rw [add_field _ _ 3 (by omega)] at hv143_3
                          replace hv143_3 := Option.some.inj (hv143_3.symm.trans hx143_3)
                          rw [hv143_3] at ge143_3
                          have HL143_3 := Aside0.mk (show Kd.R k48 48 _ _ _ _ ((rd_T38 t122 x7_2).f3) from ge143_3)
                          clear hv143_3 ge143_3
                          clear hcc143 hce143
                          have HR143_3 := Aside0.mk hi143_3
                          have HC143_3 := Aside0.mk hl143_3
                          clear hi143_3 hl143_3
                          replace p143 := eq_true p143
                          replace q143 := eq_true q143
                          have p144 : 0 ≤ (x7_2 : Int) := of_decide_eq_true (by first | (with_reducible assumption) | assumption)
                          have q144 : x7_2 < (t122.length : Int) := of_decide_eq_true (by first | (with_reducible assumption) | assumption)
                          obtain ⟨ad144, A144_3, c144_3, e144, hx144_0, hx144_1, hx144_2, hx144_3, hx144_4, hl144_3, hi144_3⟩ := at_T38 (Kd.S_reads' HO_3.out).2.2 x7_2 p144 q144
                          obtain rfl : ad132 = ad144 := (by injection e144)
                          obtain ⟨ce144, hce144, hMe144, hcc144⟩ := Kd.S_get HO_3.out z38 x7_2 p144 (by first | exact q144 | exact of_decide_eq_true (by first | (with_reducible assumption) | assumption) | (have e_ := (Kd.S_reads' HO_3.out).1; omega))
                          obtain ⟨ve144_3, rfl, ge144_3⟩ := k38_openM hMe144
                          have hv144_3 := hcc144 3 _ rfl
                          rw [add_field _ _ 3 (by omega)] at hv144_3
                          replace hv144_3 := Option.some.inj (hv144_3.symm.trans hx144_3)
                          rw [hv144_3] at ge144_3
                          have HL144_3 := Aside0.mk (show Kd.R k48 48 _ _ _ _ ((rd_T38 t122 x7_2).f3) from ge144_3)
                          clear hv144_3 ge144_3
                          clear hcc144 hce144
                          have HR144_3 := Aside0.mk hi144_3
                          have HC144_3 := Aside0.mk hl144_3
                          clear hi144_3 hl144_3
                          replace p144 := eq_true p144
                          replace q144 := eq_true q144
                          have ea_ := Option.some.inj (hx143_3.symm.trans hx144_3)
                          injection ea_ with ea_ en_ ec_
                          subst ea_
                          subst ec_
                          clear en_
                          go_wp2
                          (try simp only [← hl5_36])
                          go_roundg kj36
                          case measure => have := HJ6.out; have := HK2.out; have := HJ23.out; have := HJ36.out; omega
                          case rel => exact ⟨(y138), (x6_2 ++ ((rd_T38 t122 x7_2).f2)), (wrap64 (x7_2 + 1)), (by first | rfl | (simp; done) | (simp [*]; done)), (by first | rfl | (simp; done) | (simp [*]; done)), H', ⟨by have := HJ6.out; have := HK2.out; have := HJ23.out; have := HJ36.out; omega⟩, ⟨by (try simp only [hl5_36]); (with_reducible repeat (first | apply Kd.S_alloc | apply Kd.S_drewN | apply Kd.S_drew)); exact HO_3.out⟩, ⟨by (try simp only [hl5_36]); (with_reducible repeat (first | apply Kd.R_alloc | apply Kd.R_drewN | apply Kd.R_drew)); exact HO_5.out⟩, ⟨by repeat (first | (with_reducible first | exact HB.out | apply below_alloc | apply pw_below_drewN | apply below_drew1) | exact HB.out)⟩⟩
                         ·rw [if_neg c52] at H
                          exact absurd H (by simp)
                        ·rw [if_neg c51] at H
                         have c51b0 : (((rd_T38 t122 x7_2).f0) == 2) = false := beq_eq_false_iff_ne.mpr c51
                         have c51b1 : (((rd_T38 t122 x7_2).f0) != 2) = true := bne_iff_ne.mpr c51
                         have H' := Aside0.mk H
                         clear H
                         have p143 : 0 ≤ (x7_2 : Int) := of_decide_eq_true (by first | (with_reducible assumption) | assumption)
                         have q143 : x7_2 < (t122.length : Int) := of_decide_eq_true (by first | (with_reducible assumption) | assumption)
                         obtain ⟨ad143, A143_3, c143_3, e143, hx143_0, hx143_1, hx143_2, hx143_3, hx143_4, hl143_3, hi143_3⟩ := at_T38 (Kd.S_reads' HO_3.out).2.2 x7_2 p143 q143
                         obtain rfl : ad132 = ad143 := (by injection e143)
                         obtain ⟨ce143, hce143, hMe143, hcc143⟩ := Kd.S_get HO_3.out z38 x7_2 p143 (by first | exact q143 | exact of_decide_eq_true (by first | (with_reducible assumption) | assumption) | (have e_ := (Kd.S_reads' HO_3.out).1; omega))
                         obtain ⟨ve143_3, rfl, ge143_3⟩ := k38_openM hMe143
                         have hv143_3 := hcc143 3 _ rfl
                         rw [add_field _ _ 3 (by omega)] at hv143_3
                         replace hv143_3 := Option.some.inj (hv143_3.symm.trans hx143_3)
                         rw [hv143_3] at ge143_3
                         have HL143_3 := Aside0.mk (show Kd.R k48 48 _ _ _ _ ((rd_T38 t122 x7_2).f3) from ge143_3)
                         clear hv143_3 ge143_3
                         clear hcc143 hce143
                         have HR143_3 := Aside0.mk hi143_3
                         have HC143_3 := Aside0.mk hl143_3
                         clear hi143_3 hl143_3
                         replace p143 := eq_true p143
                         replace q143 := eq_true q143
                         go_wp2
                         (try simp only [← hl5_36])
                         go_roundg kj36
                         case measure => have := HJ6.out; have := HK2.out; have := HJ23.out; have := HJ36.out; omega
                         case rel => exact ⟨(y138), (x6_2), (wrap64 (x7_2 + 1)), (by first | rfl | (simp; done) | (simp [*]; done)), (by first | rfl | (simp; done) | (simp [*]; done)), H', ⟨by have := HJ6.out; have := HK2.out; have := HJ23.out; have := HJ36.out; omega⟩, ⟨by (try simp only [hl5_36]); (with_reducible repeat (first | apply Kd.S_alloc | apply Kd.S_drewN | apply Kd.S_drew)); exact HO_3.out⟩, ⟨by (try simp only [hl5_36]); (with_reducible repeat (first | apply Kd.R_alloc | apply Kd.R_drewN | apply Kd.R_drew)); exact HO_5.out⟩, ⟨by repeat (first | (with_reducible first | exact HB.out | apply below_alloc | apply pw_below_drewN | apply below_drew1) | exact HB.out)⟩⟩
                       ·rw [if_neg c50] at H
                        exact absurd H (by simp)
                      ·rw [if_neg c49] at H
                       exact absurd H (by simp)
                  ·rw [if_neg c35] at H
                   exact absurd H (by simp)
                 ·rw [if_neg c34] at H
                  exact absurd H (by simp)
                ·rw [if_neg c33] at H
                 exact absurd H (by simp)
               ·rw [if_neg c32] at H
                exact absurd H (by simp)
           ·rw [if_neg c23] at H
            exact absurd H (by simp)
          ·rw [if_neg c22] at H
           have c22b0 : decide (x7_2 < (t122.length : Int)) = false := decide_eq_false c22
           clear c22
           have H' := Aside0.mk H
           clear H
           go_wp2
           go_loopg [9, 10, 12] k2 (fun kq v9 v10 v12 w' => ∃ (x9_3 : ByteArray) (x10_3 : Int) (x12_3 : Int), v9 = .string x9_3 ∧ v10 = .int .i64 x10_3 ∧ v12 = .int .i64 x12_3 ∧ Aside0 (stolelaw7_TreeShapes.l1 kq l0 t122 x6_2 x9_3 x10_3 0 x12_3 = some r) ∧ Aside0 (kq ≤ k2) ∧ Aside0 (Kd.S k38 38 w' w.heap.size (fun _ => True) (.slice Ao19 t122.length co19) t122) ∧ Aside0 (Below w.heap.size w w'))
           case atStart => exact ⟨((⟨#[]⟩ : ByteArray)), (0), (0), (by first | rfl | (simp; done) | (simp [*]; done)), (by first | rfl | (simp; done) | (simp [*]; done)), (by first | rfl | (simp; done) | (simp [*]; done)), H', ⟨Nat.le_refl _⟩, ⟨by (with_reducible repeat (first | apply Kd.S_alloc | apply Kd.S_drewN | apply Kd.S_drew)); exact HO_3.out⟩, ⟨by repeat (first | (with_reducible first | exact HB.out | apply below_alloc | apply pw_below_drewN | apply below_drew1) | exact HB.out)⟩⟩
           case round =>
            clear H'
            try clear c1
            try clear p1
            try clear q1
            try clear hx1
            try clear qi1
            try clear c2
            try clear p2
            try clear c3
            try clear p3
            try clear q3
            try clear hx3
            try clear hf3
            try clear c4
            try clear c5
            try clear c6
            try clear c6b0
            try clear c6b1
            try clear p6
            try clear c9
            try clear c10
            try clear c10b0
            try clear c10b1
            try clear c10b2
            try clear c12
            try clear c12b0
            try clear c12b1
            try clear p12
            try clear q12
            try clear hx12
            try clear qi12
            try clear c13
            try clear c13b0
            try clear c13b1
            try clear p13
            try clear q13
            try clear hx13
            try clear c14
            try clear p14
            try clear q14
            try clear hx14
            try clear c15
            try clear c16
            try clear c17
            try clear c17b0
            try clear c17b1
            try clear c18
            try clear c18b0
            try clear c18b1
            try clear c22
            try clear c22b0
            try clear c23
            try clear c23b0
            try clear c25
            try clear c25b0
            try clear c26
            try clear c26b0
            try clear c27
            try clear c27b0
            try clear c28
            try clear c28b0
            try clear c29
            try clear c29b0
            try clear c29b1
            try clear c30
            try clear c30b0
            try clear c30b1
            try clear c31
            try clear c32
            try clear c32b0
            try clear c33
            try clear c33b0
            try clear c34
            try clear c34b0
            try clear c35
            try clear c35b0
            try clear p36
            try clear q36
            try clear hx36
            try clear hf36
            try clear c41
            try clear c41b0
            try clear c42
            try clear c42b0
            try clear c43
            try clear c43b0
            try clear c43b1
            try clear c45
            try clear c45b0
            try clear c46
            try clear c46b0
            try clear c47
            try clear c47b0
            try clear c47b1
            try clear c48
            try clear c49
            try clear c49b0
            try clear c50
            try clear c50b0
            try clear c51
            try clear c51b0
            try clear c51b1
            try clear c52
            try clear c52b0
            try clear c52b1
            try clear c52b2
            try clear hx127_0
            try clear hx127_1
            try clear hx127_2
            try clear hx127_3
            try clear hx127_4
            try clear hx128_0
            try clear hx128_1
            try clear hx128_2
            try clear hx128_3
            try clear hx128_4
            try clear hx132_0
            try clear hx132_1
            try clear hx132_2
            try clear hx132_3
            try clear hx132_4
            try clear hx133_0
            try clear hx133_1
            try clear hx133_2
            try clear hx133_3
            try clear hx133_4
            try clear hx134_0
            try clear hx134_1
            try clear hx134_2
            try clear hx134_3
            try clear hx134_4
            try clear hx135_0
            try clear hx135_1
            try clear hx135_2
            try clear hx135_3
            try clear hx135_4
            try clear hx136_0
            try clear hx136_1
            try clear hx136_2
            try clear hx136_3
            try clear hx136_4
            try clear hx137_0
            try clear hx139_0
            try clear hx140_0
            try clear hx140_1
            try clear hx140_2
            try clear hx140_3
            try clear hx140_4
            try clear hx141_0
            try clear hx141_1
            try clear hx141_2
            try clear hx141_3
            try clear hx141_4
            try clear hx142_0
            try clear hx142_1
            try clear hx142_2
            try clear hx142_3
            try clear hx142_4
            try clear hx143_0
            try clear hx143_1
            try clear hx143_2
            try clear hx143_3
            try clear hx143_4
            try clear hx144_0
            try clear hx144_1
            try clear hx144_2
            try clear hx144_3
            try clear hx144_4
            try clear hx36_0
            try clear p1
            try clear p12
            try clear p127
            try clear p128
            try clear p13
            try clear p132
            try clear p133
            try clear p134
            try clear p135
            try clear p136
            try clear p137
            try clear p139
            try clear p14
            try clear p140
            try clear p141
            try clear p142
            try clear p143
            try clear p144
            try clear p2
            try clear p3
            try clear p36
            try clear p6
            try clear q1
            try clear q12
            try clear q127
            try clear q128
            try clear q13
            try clear q132
            try clear q133
            try clear q134
            try clear q135
            try clear q136
            try clear q137
            try clear q139
            try clear q14
            try clear q140
            try clear q141
            try clear q142
            try clear q143
            try clear q144
            try clear q3
            try clear q36
            obtain ⟨x9_3, x10_3, x12_3, rfl, rfl, rfl, HA, HK3, HO_3, HB⟩ := hrel
            cases gk with
            | zero => exact absurd HA.out (by simp [stolelaw7_TreeShapes.l1])
            | succ k3 =>
             have H := HA.out
             clear HA
             simp only [stolelaw7_TreeShapes.l1] at H
             by_cases c53 : x12_3 < (l0.length : Int)
             ·rw [if_pos c53] at H
              have c53b0 : decide (x12_3 < (l0.length : Int)) = true := decide_eq_true c53
              clear c53
              by_cases c54 : 0 ≤ x12_3
              ·rw [if_pos c54] at H
               have c54b0 : decide (0 ≤ x12_3) = true := decide_eq_true c54
               clear c54
               by_cases c55 : ((rd_T41 l0 x12_3).f0) = 0
               ·rw [if_pos c55] at H
                have c55b0 : (((rd_T41 l0 x12_3).f0) == 0) = true := beq_iff_eq.mpr c55
                have c55b1 : (((rd_T41 l0 x12_3).f0) != 0) = false := bne_eq_false_iff_eq.mpr c55
                clear c55
                by_cases c56 : x9_3.size + ((rd_T41 l0 x12_3).f2).size ≤ 9223372036854775807
                ·rw [if_pos c56] at H
                 have c56b0 := eq_true c56
                 have c56b1 : decide (x9_3.size + ((rd_T41 l0 x12_3).f2).size ≤ 9223372036854775807) = true := decide_eq_true c56
                 try have c56b2 : (9223372036854775807 < x9_3.size + ((rd_T41 l0 x12_3).f2).size) = False := eq_false (Nat.not_lt.2 c56)
                 by_cases c57 : ((rd_T41 l0 x12_3).f0) = 1
                 ·rw [if_pos c57] at H
                  have c57b0 : (((rd_T41 l0 x12_3).f0) == 1) = true := beq_iff_eq.mpr c57
                  have c57b1 : (((rd_T41 l0 x12_3).f0) != 1) = false := bne_eq_false_iff_eq.mpr c57
                  clear c57
                  have H' := Aside0.mk H
                  clear H
                  have p145 : 0 ≤ (x12_3 : Int) := of_decide_eq_true (by first | (with_reducible assumption) | assumption)
                  have q145 : x12_3 < (l0.length : Int) := of_decide_eq_true (by first | (with_reducible assumption) | assumption)
                  obtain ⟨ad145, A145_3, c145_3, e145, hx145_0, hx145_1, hx145_2, hx145_3, hx145_4, hl145_3, hi145_3⟩ := at_T41 HR0.out x12_3 p145 q145
                  cases e145
                  replace hx145_0 := (HB.out.cell (World.block_lt_of_cell? w _ hx145_0)).trans hx145_0
                  replace hx145_1 := (HB.out.cell (World.block_lt_of_cell? w _ hx145_1)).trans hx145_1
                  replace hx145_2 := (HB.out.cell (World.block_lt_of_cell? w _ hx145_2)).trans hx145_2
                  replace hx145_3 := (HB.out.cell (World.block_lt_of_cell? w _ hx145_3)).trans hx145_3
                  replace hx145_4 := (HB.out.cell (World.block_lt_of_cell? w _ hx145_4)).trans hx145_4
                  have HR145_3 := Aside0.mk hi145_3
                  have HC145_3 := Aside0.mk hl145_3
                  clear hi145_3 hl145_3
                  replace p145 := eq_true p145
                  replace q145 := eq_true q145
                  have p146 : 0 ≤ (x12_3 : Int) := of_decide_eq_true (by first | (with_reducible assumption) | assumption)
                  have q146 : x12_3 < (l0.length : Int) := of_decide_eq_true (by first | (with_reducible assumption) | assumption)
                  obtain ⟨ad146, A146_3, c146_3, e146, hx146_0, hx146_1, hx146_2, hx146_3, hx146_4, hl146_3, hi146_3⟩ := at_T41 HR0.out x12_3 p146 q146
                  obtain rfl : ad145 = ad146 := (by injection e146)
                  replace hx146_0 := (HB.out.cell (World.block_lt_of_cell? w _ hx146_0)).trans hx146_0
                  replace hx146_1 := (HB.out.cell (World.block_lt_of_cell? w _ hx146_1)).trans hx146_1
                  replace hx146_2 := (HB.out.cell (World.block_lt_of_cell? w _ hx146_2)).trans hx146_2
                  replace hx146_3 := (HB.out.cell (World.block_lt_of_cell? w _ hx146_3)).trans hx146_3
                  replace hx146_4 := (HB.out.cell (World.block_lt_of_cell? w _ hx146_4)).trans hx146_4
                  have HR146_3 := Aside0.mk hi146_3
                  have HC146_3 := Aside0.mk hl146_3
                  clear hi146_3 hl146_3
                  replace p146 := eq_true p146
                  replace q146 := eq_true q146
                  have ea_ := Option.some.inj (hx145_3.symm.trans hx146_3)
                  injection ea_ with ea_ en_ ec_
                  subst ea_
                  subst ec_
                  clear en_
                  have p147 : 0 ≤ (x12_3 : Int) := of_decide_eq_true (by first | (with_reducible assumption) | assumption)
                  have q147 : x12_3 < (l0.length : Int) := of_decide_eq_true (by first | (with_reducible assumption) | assumption)
                  obtain ⟨ad147, A147_3, c147_3, e147, hx147_0, hx147_1, hx147_2, hx147_3, hx147_4, hl147_3, hi147_3⟩ := at_T41 HR0.out x12_3 p147 q147
                  obtain rfl : ad145 = ad147 := (by injection e147)
                  replace hx147_0 := (HB.out.cell (World.block_lt_of_cell? w _ hx147_0)).trans hx147_0
                  replace hx147_1 := (HB.out.cell (World.block_lt_of_cell? w _ hx147_1)).trans hx147_1
                  replace hx147_2 := (HB.out.cell (World.block_lt_of_cell? w _ hx147_2)).trans hx147_2
                  replace hx147_3 := (HB.out.cell (World.block_lt_of_cell? w _ hx147_3)).trans hx147_3
                  replace hx147_4 := (HB.out.cell (World.block_lt_of_cell? w _ hx147_4)).trans hx147_4
                  have HR147_3 := Aside0.mk hi147_3
                  have HC147_3 := Aside0.mk hl147_3
                  clear hi147_3 hl147_3
                  replace p147 := eq_true p147
                  replace q147 := eq_true q147
                  have ea_ := Option.some.inj (hx145_3.symm.trans hx147_3)
                  injection ea_ with ea_ en_ ec_
                  subst ea_
                  subst ec_
                  clear en_
                  go_wp2
                  go_roundg k3
                  case measure => have := HJ6.out; have := HK2.out; have := HK3.out; omega
                  case rel => exact ⟨(x9_3 ++ ((rd_T41 l0 x12_3).f2)), (wrap64 (x10_3 + 1)), (wrap64 (x12_3 + 1)), (by first | rfl | (simp; done) | (simp [*]; done)), (by first | rfl | (simp; done) | (simp [*]; done)), (by first | rfl | (simp; done) | (simp [*]; done)), H', ⟨by have := HJ6.out; have := HK2.out; have := HK3.out; omega⟩, ⟨by (with_reducible repeat (first | apply Kd.S_alloc | apply Kd.S_drewN | apply Kd.S_drew)); exact HO_3.out⟩, ⟨by repeat (first | (with_reducible first | exact HB.out | apply below_alloc | apply pw_below_drewN | apply below_drew1) | exact HB.out)⟩⟩
                 ·rw [if_neg c57] at H
                  have c57b0 : (((rd_T41 l0 x12_3).f0) == 1) = false := beq_eq_false_iff_ne.mpr c57
                  have c57b1 : (((rd_T41 l0 x12_3).f0) != 1) = true := bne_iff_ne.mpr c57
                  have H' := Aside0.mk H
                  clear H
                  have p145 : 0 ≤ (x12_3 : Int) := of_decide_eq_true (by first | (with_reducible assumption) | assumption)
                  have q145 : x12_3 < (l0.length : Int) := of_decide_eq_true (by first | (with_reducible assumption) | assumption)
                  obtain ⟨ad145, A145_3, c145_3, e145, hx145_0, hx145_1, hx145_2, hx145_3, hx145_4, hl145_3, hi145_3⟩ := at_T41 HR0.out x12_3 p145 q145
                  cases e145
                  replace hx145_0 := (HB.out.cell (World.block_lt_of_cell? w _ hx145_0)).trans hx145_0
                  replace hx145_1 := (HB.out.cell (World.block_lt_of_cell? w _ hx145_1)).trans hx145_1
                  replace hx145_2 := (HB.out.cell (World.block_lt_of_cell? w _ hx145_2)).trans hx145_2
                  replace hx145_3 := (HB.out.cell (World.block_lt_of_cell? w _ hx145_3)).trans hx145_3
                  replace hx145_4 := (HB.out.cell (World.block_lt_of_cell? w _ hx145_4)).trans hx145_4
                  have HR145_3 := Aside0.mk hi145_3
                  have HC145_3 := Aside0.mk hl145_3
                  clear hi145_3 hl145_3
                  replace p145 := eq_true p145
                  replace q145 := eq_true q145
                  have p146 : 0 ≤ (x12_3 : Int) := of_decide_eq_true (by first | (with_reducible assumption) | assumption)
                  have q146 : x12_3 < (l0.length : Int) := of_decide_eq_true (by first | (with_reducible assumption) | assumption)
                  obtain ⟨ad146, A146_3, c146_3, e146, hx146_0, hx146_1, hx146_2, hx146_3, hx146_4, hl146_3, hi146_3⟩ := at_T41 HR0.out x12_3 p146 q146
                  obtain rfl : ad145 = ad146 := (by injection e146)
                  replace hx146_0 := (HB.out.cell (World.block_lt_of_cell? w _ hx146_0)).trans hx146_0
                  replace hx146_1 := (HB.out.cell (World.block_lt_of_cell? w _ hx146_1)).trans hx146_1
                  replace hx146_2 := (HB.out.cell (World.block_lt_of_cell? w _ hx146_2)).trans hx146_2
                  replace hx146_3 := (HB.out.cell (World.block_lt_of_cell? w _ hx146_3)).trans hx146_3
                  replace hx146_4 := (HB.out.cell (World.block_lt_of_cell? w _ hx146_4)).trans hx146_4
                  have HR146_3 := Aside0.mk hi146_3
                  have HC146_3 := Aside0.mk hl146_3
                  clear hi146_3 hl146_3
                  replace p146 := eq_true p146
                  replace q146 := eq_true q146
                  have ea_ := Option.some.inj (hx145_3.symm.trans hx146_3)
                  injection ea_ with ea_ en_ ec_
                  subst ea_
                  subst ec_
                  clear en_
                  have p147 : 0 ≤ (x12_3 : Int) := of_decide_eq_true (by first | (with_reducible assumption) | assumption)
                  have q147 : x12_3 < (l0.length : Int) := of_decide_eq_true (by first | (with_reducible assumption) | assumption)
                  obtain ⟨ad147, A147_3, c147_3, e147, hx147_0, hx147_1, hx147_2, hx147_3, hx147_4, hl147_3, hi147_3⟩ := at_T41 HR0.out x12_3 p147 q147
                  obtain rfl : ad145 = ad147 := (by injection e147)
                  replace hx147_0 := (HB.out.cell (World.block_lt_of_cell? w _ hx147_0)).trans hx147_0
                  replace hx147_1 := (HB.out.cell (World.block_lt_of_cell? w _ hx147_1)).trans hx147_1
                  replace hx147_2 := (HB.out.cell (World.block_lt_of_cell? w _ hx147_2)).trans hx147_2
                  replace hx147_3 := (HB.out.cell (World.block_lt_of_cell? w _ hx147_3)).trans hx147_3
                  replace hx147_4 := (HB.out.cell (World.block_lt_of_cell? w _ hx147_4)).trans hx147_4
                  have HR147_3 := Aside0.mk hi147_3
                  have HC147_3 := Aside0.mk hl147_3
                  clear hi147_3 hl147_3
                  replace p147 := eq_true p147
                  replace q147 := eq_true q147
                  have ea_ := Option.some.inj (hx145_3.symm.trans hx147_3)
                  injection ea_ with ea_ en_ ec_
                  subst ea_
                  subst ec_
                  clear en_
                  go_wp2
                  go_roundg k3
                  case measure => have := HJ6.out; have := HK2.out; have := HK3.out; omega
                  case rel => exact ⟨(x9_3 ++ ((rd_T41 l0 x12_3).f2)), (x10_3), (wrap64 (x12_3 + 1)), (by first | rfl | (simp; done) | (simp [*]; done)), (by first | rfl | (simp; done) | (simp [*]; done)), (by first | rfl | (simp; done) | (simp [*]; done)), H', ⟨by have := HJ6.out; have := HK2.out; have := HK3.out; omega⟩, ⟨by (with_reducible repeat (first | apply Kd.S_alloc | apply Kd.S_drewN | apply Kd.S_drew)); exact HO_3.out⟩, ⟨by repeat (first | (with_reducible first | exact HB.out | apply below_alloc | apply pw_below_drewN | apply below_drew1) | exact HB.out)⟩⟩
                ·rw [if_neg c56] at H
                 exact absurd H (by simp)
               ·rw [if_neg c55] at H
                have c55b0 : (((rd_T41 l0 x12_3).f0) == 0) = false := beq_eq_false_iff_ne.mpr c55
                have c55b1 : (((rd_T41 l0 x12_3).f0) != 0) = true := bne_iff_ne.mpr c55
                by_cases c58 : ((rd_T41 l0 x12_3).f0) = 1
                ·rw [if_pos c58] at H
                 have c58b0 : (((rd_T41 l0 x12_3).f0) == 1) = true := beq_iff_eq.mpr c58
                 have c58b1 : (((rd_T41 l0 x12_3).f0) != 1) = false := bne_eq_false_iff_eq.mpr c58
                 clear c58
                 have H' := Aside0.mk H
                 clear H
                 have p145 : 0 ≤ (x12_3 : Int) := of_decide_eq_true (by first | (with_reducible assumption) | assumption)
                 have q145 : x12_3 < (l0.length : Int) := of_decide_eq_true (by first | (with_reducible assumption) | assumption)
                 obtain ⟨ad145, A145_3, c145_3, e145, hx145_0, hx145_1, hx145_2, hx145_3, hx145_4, hl145_3, hi145_3⟩ := at_T41 HR0.out x12_3 p145 q145
                 cases e145
                 replace hx145_0 := (HB.out.cell (World.block_lt_of_cell? w _ hx145_0)).trans hx145_0
                 replace hx145_1 := (HB.out.cell (World.block_lt_of_cell? w _ hx145_1)).trans hx145_1
                 replace hx145_2 := (HB.out.cell (World.block_lt_of_cell? w _ hx145_2)).trans hx145_2
                 replace hx145_3 := (HB.out.cell (World.block_lt_of_cell? w _ hx145_3)).trans hx145_3
                 replace hx145_4 := (HB.out.cell (World.block_lt_of_cell? w _ hx145_4)).trans hx145_4
                 have HR145_3 := Aside0.mk hi145_3
                 have HC145_3 := Aside0.mk hl145_3
                 clear hi145_3 hl145_3
                 replace p145 := eq_true p145
                 replace q145 := eq_true q145
                 have p148 : 0 ≤ (x12_3 : Int) := of_decide_eq_true (by first | (with_reducible assumption) | assumption)
                 have q148 : x12_3 < (l0.length : Int) := of_decide_eq_true (by first | (with_reducible assumption) | assumption)
                 obtain ⟨ad148, A148_3, c148_3, e148, hx148_0, hx148_1, hx148_2, hx148_3, hx148_4, hl148_3, hi148_3⟩ := at_T41 HR0.out x12_3 p148 q148
                 obtain rfl : ad145 = ad148 := (by injection e148)
                 replace hx148_0 := (HB.out.cell (World.block_lt_of_cell? w _ hx148_0)).trans hx148_0
                 replace hx148_1 := (HB.out.cell (World.block_lt_of_cell? w _ hx148_1)).trans hx148_1
                 replace hx148_2 := (HB.out.cell (World.block_lt_of_cell? w _ hx148_2)).trans hx148_2
                 replace hx148_3 := (HB.out.cell (World.block_lt_of_cell? w _ hx148_3)).trans hx148_3
                 replace hx148_4 := (HB.out.cell (World.block_lt_of_cell? w _ hx148_4)).trans hx148_4
                 have HR148_3 := Aside0.mk hi148_3
                 have HC148_3 := Aside0.mk hl148_3
                 clear hi148_3 hl148_3
                 replace p148 := eq_true p148
                 replace q148 := eq_true q148
                 have ea_ := Option.some.inj (hx145_3.symm.trans hx148_3)
                 injection ea_ with ea_ en_ ec_
                 subst ea_
                 subst ec_
                 clear en_
                 go_wp2
                 go_roundg k3
                 case measure => have := HJ6.out; have := HK2.out; have := HK3.out; omega
                 case rel => exact ⟨(x9_3), (wrap64 (x10_3 + 1)), (wrap64 (x12_3 + 1)), (by first | rfl | (simp; done) | (simp [*]; done)), (by first | rfl | (simp; done) | (simp [*]; done)), (by first | rfl | (simp; done) | (simp [*]; done)), H', ⟨by have := HJ6.out; have := HK2.out; have := HK3.out; omega⟩, ⟨by (with_reducible repeat (first | apply Kd.S_alloc | apply Kd.S_drewN | apply Kd.S_drew)); exact HO_3.out⟩, ⟨by repeat (first | (with_reducible first | exact HB.out | apply below_alloc | apply pw_below_drewN | apply below_drew1) | exact HB.out)⟩⟩
                ·rw [if_neg c58] at H
                 have c58b0 : (((rd_T41 l0 x12_3).f0) == 1) = false := beq_eq_false_iff_ne.mpr c58
                 have c58b1 : (((rd_T41 l0 x12_3).f0) != 1) = true := bne_iff_ne.mpr c58
                 have H' := Aside0.mk H
                 clear H
                 have p145 : 0 ≤ (x12_3 : Int) := of_decide_eq_true (by first | (with_reducible assumption) | assumption)
                 have q145 : x12_3 < (l0.length : Int) := of_decide_eq_true (by first | (with_reducible assumption) | assumption)
                 obtain ⟨ad145, A145_3, c145_3, e145, hx145_0, hx145_1, hx145_2, hx145_3, hx145_4, hl145_3, hi145_3⟩ := at_T41 HR0.out x12_3 p145 q145
                 cases e145
                 replace hx145_0 := (HB.out.cell (World.block_lt_of_cell? w _ hx145_0)).trans hx145_0
                 replace hx145_1 := (HB.out.cell (World.block_lt_of_cell? w _ hx145_1)).trans hx145_1
                 replace hx145_2 := (HB.out.cell (World.block_lt_of_cell? w _ hx145_2)).trans hx145_2
                 replace hx145_3 := (HB.out.cell (World.block_lt_of_cell? w _ hx145_3)).trans hx145_3
                 replace hx145_4 := (HB.out.cell (World.block_lt_of_cell? w _ hx145_4)).trans hx145_4
                 have HR145_3 := Aside0.mk hi145_3
                 have HC145_3 := Aside0.mk hl145_3
                 clear hi145_3 hl145_3
                 replace p145 := eq_true p145
                 replace q145 := eq_true q145
                 have p148 : 0 ≤ (x12_3 : Int) := of_decide_eq_true (by first | (with_reducible assumption) | assumption)
                 have q148 : x12_3 < (l0.length : Int) := of_decide_eq_true (by first | (with_reducible assumption) | assumption)
                 obtain ⟨ad148, A148_3, c148_3, e148, hx148_0, hx148_1, hx148_2, hx148_3, hx148_4, hl148_3, hi148_3⟩ := at_T41 HR0.out x12_3 p148 q148
                 obtain rfl : ad145 = ad148 := (by injection e148)
                 replace hx148_0 := (HB.out.cell (World.block_lt_of_cell? w _ hx148_0)).trans hx148_0
                 replace hx148_1 := (HB.out.cell (World.block_lt_of_cell? w _ hx148_1)).trans hx148_1
                 replace hx148_2 := (HB.out.cell (World.block_lt_of_cell? w _ hx148_2)).trans hx148_2
                 replace hx148_3 := (HB.out.cell (World.block_lt_of_cell? w _ hx148_3)).trans hx148_3
                 replace hx148_4 := (HB.out.cell (World.block_lt_of_cell? w _ hx148_4)).trans hx148_4
                 have HR148_3 := Aside0.mk hi148_3
                 have HC148_3 := Aside0.mk hl148_3
                 clear hi148_3 hl148_3
                 replace p148 := eq_true p148
                 replace q148 := eq_true q148
                 have ea_ := Option.some.inj (hx145_3.symm.trans hx148_3)
                 injection ea_ with ea_ en_ ec_
                 subst ea_
                 subst ec_
                 clear en_
                 go_wp2
                 go_roundg k3
                 case measure => have := HJ6.out; have := HK2.out; have := HK3.out; omega
                 case rel => exact ⟨(x9_3), (x10_3), (wrap64 (x12_3 + 1)), (by first | rfl | (simp; done) | (simp [*]; done)), (by first | rfl | (simp; done) | (simp [*]; done)), (by first | rfl | (simp; done) | (simp [*]; done)), H', ⟨by have := HJ6.out; have := HK2.out; have := HK3.out; omega⟩, ⟨by (with_reducible repeat (first | apply Kd.S_alloc | apply Kd.S_drewN | apply Kd.S_drew)); exact HO_3.out⟩, ⟨by repeat (first | (with_reducible first | exact HB.out | apply below_alloc | apply pw_below_drewN | apply below_drew1) | exact HB.out)⟩⟩
              ·rw [if_neg c54] at H
               exact absurd H (by simp)
             ·rw [if_neg c53] at H
              have c53b0 : decide (x12_3 < (l0.length : Int)) = false := decide_eq_false c53
              clear c53
              have H' := Aside0.mk H
              clear H
              go_wp2
              go_loopg [11, 13] k3 (fun kq v11 v13 w' => ∃ (x11_4 : Int) (x13_4 : Int), v11 = .int .i64 x11_4 ∧ v13 = .int .i64 x13_4 ∧ Aside0 (stolelaw7_TreeShapes.l2 kq t122 x6_2 x9_3 x10_3 x11_4 x13_4 = some r) ∧ Aside0 (kq ≤ k3) ∧ Aside0 (Kd.S k38 38 w' w.heap.size (fun _ => True) (.slice Ao19 t122.length co19) t122) ∧ Aside0 (Below w.heap.size w w'))
              case atStart => exact ⟨(0), (0), (by first | rfl | (simp; done) | (simp [*]; done)), (by first | rfl | (simp; done) | (simp [*]; done)), H', ⟨Nat.le_refl _⟩, ⟨by (with_reducible repeat (first | apply Kd.S_alloc | apply Kd.S_drewN | apply Kd.S_drew)); exact HO_3.out⟩, ⟨by repeat (first | (with_reducible first | exact HB.out | apply below_alloc | apply pw_below_drewN | apply below_drew1) | exact HB.out)⟩⟩
              case round =>
               clear H'
               try clear c1
               try clear p1
               try clear q1
               try clear hx1
               try clear qi1
               try clear c2
               try clear p2
               try clear c3
               try clear p3
               try clear q3
               try clear hx3
               try clear hf3
               try clear c4
               try clear c5
               try clear c6
               try clear c6b0
               try clear c6b1
               try clear p6
               try clear c9
               try clear c10
               try clear c10b0
               try clear c10b1
               try clear c10b2
               try clear c12
               try clear c12b0
               try clear c12b1
               try clear p12
               try clear q12
               try clear hx12
               try clear qi12
               try clear c13
               try clear c13b0
               try clear c13b1
               try clear p13
               try clear q13
               try clear hx13
               try clear c14
               try clear p14
               try clear q14
               try clear hx14
               try clear c15
               try clear c16
               try clear c17
               try clear c17b0
               try clear c17b1
               try clear c18
               try clear c18b0
               try clear c18b1
               try clear c22
               try clear c22b0
               try clear c23
               try clear c23b0
               try clear c25
               try clear c25b0
               try clear c26
               try clear c26b0
               try clear c27
               try clear c27b0
               try clear c28
               try clear c28b0
               try clear c29
               try clear c29b0
               try clear c29b1
               try clear c30
               try clear c30b0
               try clear c30b1
               try clear c31
               try clear c32
               try clear c32b0
               try clear c33
               try clear c33b0
               try clear c34
               try clear c34b0
               try clear c35
               try clear c35b0
               try clear p36
               try clear q36
               try clear hx36
               try clear hf36
               try clear c41
               try clear c41b0
               try clear c42
               try clear c42b0
               try clear c43
               try clear c43b0
               try clear c43b1
               try clear c45
               try clear c45b0
               try clear c46
               try clear c46b0
               try clear c47
               try clear c47b0
               try clear c47b1
               try clear c48
               try clear c49
               try clear c49b0
               try clear c50
               try clear c50b0
               try clear c51
               try clear c51b0
               try clear c51b1
               try clear c52
               try clear c52b0
               try clear c52b1
               try clear c52b2
               try clear c53
               try clear c53b0
               try clear c54
               try clear c54b0
               try clear c55
               try clear c55b0
               try clear c55b1
               try clear c56
               try clear c56b0
               try clear c56b1
               try clear c56b2
               try clear c57
               try clear c57b0
               try clear c57b1
               try clear c58
               try clear c58b0
               try clear c58b1
               try clear hx127_0
               try clear hx127_1
               try clear hx127_2
               try clear hx127_3
               try clear hx127_4
               try clear hx128_0
               try clear hx128_1
               try clear hx128_2
               try clear hx128_3
               try clear hx128_4
               try clear hx132_0
               try clear hx132_1
               try clear hx132_2
               try clear hx132_3
               try clear hx132_4
               try clear hx133_0
               try clear hx133_1
               try clear hx133_2
               try clear hx133_3
               try clear hx133_4
               try clear hx134_0
               try clear hx134_1
               try clear hx134_2
               try clear hx134_3
               try clear hx134_4
               try clear hx135_0
               try clear hx135_1
               try clear hx135_2
               try clear hx135_3
               try clear hx135_4
               try clear hx136_0
               try clear hx136_1
               try clear hx136_2
               try clear hx136_3
               try clear hx136_4
               try clear hx137_0
               try clear hx139_0
               try clear hx140_0
               try clear hx140_1
               try clear hx140_2
               try clear hx140_3
               try clear hx140_4
               try clear hx141_0
               try clear hx141_1
               try clear hx141_2
               try clear hx141_3
               try clear hx141_4
               try clear hx142_0
               try clear hx142_1
               try clear hx142_2
               try clear hx142_3
               try clear hx142_4
               try clear hx143_0
               try clear hx143_1
               try clear hx143_2
               try clear hx143_3
               try clear hx143_4
               try clear hx144_0
               try clear hx144_1
               try clear hx144_2
               try clear hx144_3
               try clear hx144_4
               try clear hx145_0
               try clear hx145_1
               try clear hx145_2
               try clear hx145_3
               try clear hx145_4
               try clear hx146_0
               try clear hx146_1
               try clear hx146_2
               try clear hx146_3
               try clear hx146_4
               try clear hx147_0
               try clear hx147_1
               try clear hx147_2
               try clear hx147_3
               try clear hx147_4
               try clear hx148_0
               try clear hx148_1
               try clear hx148_2
               try clear hx148_3
               try clear hx148_4
               try clear hx36_0
               try clear p1
               try clear p12
               try clear p127
               try clear p128
               try clear p13
               try clear p132
               try clear p133
               try clear p134
               try clear p135
               try clear p136
               try clear p137
               try clear p139
               try clear p14
               try clear p140
               try clear p141
               try clear p142
               try clear p143
               try clear p144
               try clear p145
               try clear p146
               try clear p147
               try clear p148
               try clear p2
               try clear p3
               try clear p36
               try clear p6
               try clear q1
               try clear q12
               try clear q127
               try clear q128
               try clear q13
               try clear q132
               try clear q133
               try clear q134
               try clear q135
               try clear q136
               try clear q137
               try clear q139
               try clear q14
               try clear q140
               try clear q141
               try clear q142
               try clear q143
               try clear q144
               try clear q145
               try clear q146
               try clear q147
               try clear q148
               try clear q3
               try clear q36
               obtain ⟨x11_4, x13_4, rfl, rfl, HA, HK4, HO_3, HB⟩ := hrel
               cases gk with
               | zero => exact absurd HA.out (by simp [stolelaw7_TreeShapes.l2])
               | succ k4 =>
                have H := HA.out
                clear HA
                simp only [stolelaw7_TreeShapes.l2] at H
                by_cases c59 : x13_4 < (t122.length : Int)
                ·rw [if_pos c59] at H
                 have c59b0 : decide (x13_4 < (t122.length : Int)) = true := decide_eq_true c59
                 clear c59
                 by_cases c60 : 0 ≤ x13_4
                 ·rw [if_pos c60] at H
                  have c60b0 : decide (0 ≤ x13_4) = true := decide_eq_true c60
                  clear c60
                  by_cases c61 : ((rd_T38 t122 x13_4).f0) = 1
                  ·rw [if_pos c61] at H
                   have c61b0 : (((rd_T38 t122 x13_4).f0) == 1) = true := beq_iff_eq.mpr c61
                   have c61b1 : (((rd_T38 t122 x13_4).f0) != 1) = false := bne_eq_false_iff_eq.mpr c61
                   clear c61
                   have H' := Aside0.mk H
                   clear H
                   have p149 : 0 ≤ (x13_4 : Int) := of_decide_eq_true (by first | (with_reducible assumption) | assumption)
                   have q149 : x13_4 < (t122.length : Int) := of_decide_eq_true (by first | (with_reducible assumption) | assumption)
                   obtain ⟨ad149, A149_3, c149_3, e149, hx149_0, hx149_1, hx149_2, hx149_3, hx149_4, hl149_3, hi149_3⟩ := at_T38 (Kd.S_reads' HO_3.out).2.2 x13_4 p149 q149
                   cases e149
                   obtain ⟨ce149, hce149, hMe149, hcc149⟩ := Kd.S_get HO_3.out z38 x13_4 p149 (by first | exact q149 | exact of_decide_eq_true (by first | (with_reducible assumption) | assumption) | (have e_ := (Kd.S_reads' HO_3.out).1; omega))
                   obtain ⟨ve149_3, rfl, ge149_3⟩ := k38_openM hMe149
                   have hv149_3 := hcc149 3 _ rfl
                   rw [add_field _ _ 3 (by omega)] at hv149_3
                   replace hv149_3 := Option.some.inj (hv149_3.symm.trans hx149_3)
                   rw [hv149_3] at ge149_3
                   have HL149_3 := Aside0.mk (show Kd.R k48 48 _ _ _ _ ((rd_T38 t122 x13_4).f3) from ge149_3)
                   clear hv149_3 ge149_3
                   clear hcc149 hce149
                   have HR149_3 := Aside0.mk hi149_3
                   have HC149_3 := Aside0.mk hl149_3
                   clear hi149_3 hl149_3
                   replace p149 := eq_true p149
                   replace q149 := eq_true q149
                   go_wp2
                   go_roundg k4
                   case measure => have := HJ6.out; have := HK2.out; have := HK3.out; have := HK4.out; omega
                   case rel => exact ⟨(wrap64 (x11_4 + 1)), (wrap64 (x13_4 + 1)), (by first | rfl | (simp; done) | (simp [*]; done)), (by first | rfl | (simp; done) | (simp [*]; done)), H', ⟨by have := HJ6.out; have := HK2.out; have := HK3.out; have := HK4.out; omega⟩, ⟨by (with_reducible repeat (first | apply Kd.S_alloc | apply Kd.S_drewN | apply Kd.S_drew)); exact HO_3.out⟩, ⟨by repeat (first | (with_reducible first | exact HB.out | apply below_alloc | apply pw_below_drewN | apply below_drew1) | exact HB.out)⟩⟩
                  ·rw [if_neg c61] at H
                   have c61b0 : (((rd_T38 t122 x13_4).f0) == 1) = false := beq_eq_false_iff_ne.mpr c61
                   have c61b1 : (((rd_T38 t122 x13_4).f0) != 1) = true := bne_iff_ne.mpr c61
                   have H' := Aside0.mk H
                   clear H
                   have p149 : 0 ≤ (x13_4 : Int) := of_decide_eq_true (by first | (with_reducible assumption) | assumption)
                   have q149 : x13_4 < (t122.length : Int) := of_decide_eq_true (by first | (with_reducible assumption) | assumption)
                   obtain ⟨ad149, A149_3, c149_3, e149, hx149_0, hx149_1, hx149_2, hx149_3, hx149_4, hl149_3, hi149_3⟩ := at_T38 (Kd.S_reads' HO_3.out).2.2 x13_4 p149 q149
                   cases e149
                   obtain ⟨ce149, hce149, hMe149, hcc149⟩ := Kd.S_get HO_3.out z38 x13_4 p149 (by first | exact q149 | exact of_decide_eq_true (by first | (with_reducible assumption) | assumption) | (have e_ := (Kd.S_reads' HO_3.out).1; omega))
                   obtain ⟨ve149_3, rfl, ge149_3⟩ := k38_openM hMe149
                   have hv149_3 := hcc149 3 _ rfl
                   rw [add_field _ _ 3 (by omega)] at hv149_3
                   replace hv149_3 := Option.some.inj (hv149_3.symm.trans hx149_3)
                   rw [hv149_3] at ge149_3
                   have HL149_3 := Aside0.mk (show Kd.R k48 48 _ _ _ _ ((rd_T38 t122 x13_4).f3) from ge149_3)
                   clear hv149_3 ge149_3
                   clear hcc149 hce149
                   have HR149_3 := Aside0.mk hi149_3
                   have HC149_3 := Aside0.mk hl149_3
                   clear hi149_3 hl149_3
                   replace p149 := eq_true p149
                   replace q149 := eq_true q149
                   go_wp2
                   go_roundg k4
                   case measure => have := HJ6.out; have := HK2.out; have := HK3.out; have := HK4.out; omega
                   case rel => exact ⟨(x11_4), (wrap64 (x13_4 + 1)), (by first | rfl | (simp; done) | (simp [*]; done)), (by first | rfl | (simp; done) | (simp [*]; done)), H', ⟨by have := HJ6.out; have := HK2.out; have := HK3.out; have := HK4.out; omega⟩, ⟨by (with_reducible repeat (first | apply Kd.S_alloc | apply Kd.S_drewN | apply Kd.S_drew)); exact HO_3.out⟩, ⟨by repeat (first | (with_reducible first | exact HB.out | apply below_alloc | apply pw_below_drewN | apply below_drew1) | exact HB.out)⟩⟩
                 ·rw [if_neg c60] at H
                  exact absurd H (by simp)
                ·rw [if_neg c59] at H
                 have c59b0 : decide (x13_4 < (t122.length : Int)) = false := decide_eq_false c59
                 clear c59
                 by_cases c62 : x6_2.toList = x9_3.toList
                 ·rw [if_pos c62] at H
                  have c62b0 : (x6_2.toList == x9_3.toList) = true := beq_iff_eq.mpr c62
                  have c62b1 : (x6_2.toList != x9_3.toList) = false := bne_eq_false_iff_eq.mpr c62
                  clear c62
                  obtain rfl := Option.some.inj H
                  go_wp2
                  go_ret
                  exact ⟨by first | rfl | (simp [errW_none, errW_some] <;> rfl) | (simp [*, errW_none, errW_some] <;> rfl), by repeat (first | (with_reducible first | exact HB.out | apply below_alloc | apply pw_below_drewN | apply below_drew1) | exact HB.out)⟩
                 ·rw [if_neg c62] at H
                  have c62b0 : (x6_2.toList == x9_3.toList) = false := beq_eq_false_iff_ne.mpr c62
                  have c62b1 : (x6_2.toList != x9_3.toList) = true := bne_iff_ne.mpr c62
                  obtain rfl := Option.some.inj H
                  go_wp2
                  go_ret
                  exact ⟨by first | rfl | (simp [errW_none, errW_some] <;> rfl) | (simp [*, errW_none, errW_some] <;> rfl), by repeat (first | (with_reducible first | exact HB.out | apply below_alloc | apply pw_below_drewN | apply below_drew1) | exact HB.out)⟩
       ·rw [if_neg c18] at H
        exact absurd H (by simp)
      ·rw [if_neg c17] at H
       exact absurd H (by simp)
  ·rw [if_neg c6] at H
   have c6b0 : (t126 == 0) = false := beq_eq_false_iff_ne.mpr c6
   have c6b1 : (t126 != 0) = true := bne_iff_ne.mpr c6
   obtain rfl := Option.some.inj H
   go_enter Try.func4, Try.ntmps4
   go_wp2_with (first | ((with_reducible refine gate_callee (f := 15) rfl ?_); refine goesL_ (some 14) rfl rfl Try.func15 (by kernel_rfl) rfl #[] rfl (by (try simp only [List.map_toArray, List.map_cons, List.map_nil]); first | done | rfl | (simp only [List.length_drop, List.length_take]; rfl)) ?_; (with_reducible refine (stolelaw7_awake.calls  true _ A2.out).mono ?_); rintro e w63 ⟨rfl, hb⟩; refine ⟨_, rfl, ?_⟩; have n0_ := Aside0.mk (below_step (by repeat (first | (with_reducible first | exact HB.out | apply below_alloc | apply pw_below_drewN | apply below_drew1) | exact HB.out)) hb); clear HB; have HB := n0_; clear n0_; (try clear hb); (try clear hb2); (try clear hk); (try clear hi)) | ((with_reducible refine gate_callee (f := 9) rfl ?_); refine goesL_ (some 18) rfl rfl Try.func9 (by kernel_rfl) rfl #[.slice A0 l0.length c0] rfl (by (try simp only [List.map_toArray, List.map_cons, List.map_nil]); first | done | rfl | (simp only [List.length_drop, List.length_take]; rfl)) ?_; (with_reducible refine (tree_Build.calls _ _ l0 t122 t123 _ ?side1 ?side2 A4.out).mono ?_); (case side1 => repeat (first | exact (Kd.C_below HR0.out HB.out) | (with_reducible refine Kd.C_alloc ?_ _) | (with_reducible refine Kd.C_drewN ?_ _) | (with_reducible refine Kd.C_drew ?_))); (case side2 => exact HC0.out); rintro e w64 ⟨v124, rfl, ho0, hb⟩; refine ⟨_, rfl, ?_⟩; have n0_ := Aside0.mk (Kd.S_lower ho0 (below_size (by repeat (first | (with_reducible first | exact HB.out | apply below_alloc | apply pw_below_drewN | apply below_drew1) | exact HB.out)))); have n1_ := Aside0.mk (below_step (by repeat (first | (with_reducible first | exact HB.out | apply below_alloc | apply pw_below_drewN | apply below_drew1) | exact HB.out)) hb); clear HB; have HO125 := n0_; have HB := n1_; clear n0_ n1_; (try clear hb); (try clear hb2); (try clear hk); (try clear hi); (try clear ho0)) | ((with_reducible refine gate_callee (f := 12) rfl ?_); refine goesL_ (some 22) rfl rfl Try.func12 (by kernel_rfl) rfl #[.int .i64 t123] rfl (by (try simp only [List.map_toArray, List.map_cons, List.map_nil]); first | done | rfl | (simp only [List.length_drop, List.length_take]; rfl)) ?_; (with_reducible refine (stolelaw0_Num.calls t123 t126 _ A5.out).mono ?_); rintro e w' ⟨rfl, ⟨nd, rfl⟩⟩; refine ⟨_, rfl, ?_⟩; obtain ⟨Ao65, co65, eo65⟩ := Kd.S_slice HO125.out; subst eo65))
   go_ret
   exact ⟨by first | rfl | (simp [errW_none, errW_some] <;> rfl) | (simp [*, errW_none, errW_some] <;> rfl), by repeat (first | (with_reducible first | exact HB.out | apply below_alloc | apply pw_below_drewN | apply below_drew1) | exact HB.out)⟩
 ·replace c3 := Bool.eq_false_iff.mpr c3
  subst c3
  have H1 : (some false) = some r := by rw [if_neg (show ¬ (false = true) by decide)] at H; exact H
  clear H
  have H := H1
  clear H1
  obtain rfl := Option.some.inj H
  go_enter Try.func4, Try.ntmps4
  go_wp2_with (first | ((with_reducible refine gate_callee (f := 15) rfl ?_); refine goesL_ (some 14) rfl rfl Try.func15 (by kernel_rfl) rfl #[] rfl (by (try simp only [List.map_toArray, List.map_cons, List.map_nil]); first | done | rfl | (simp only [List.length_drop, List.length_take]; rfl)) ?_; (with_reducible refine (stolelaw7_awake.calls  false _ A2.out).mono ?_); rintro e w66 ⟨rfl, hb⟩; refine ⟨_, rfl, ?_⟩; have n0_ := Aside0.mk (below_step (by repeat (first | (with_reducible first | exact HB.out | apply below_alloc | apply pw_below_drewN | apply below_drew1) | exact HB.out)) hb); clear HB; have HB := n0_; clear n0_; (try clear hb); (try clear hb2); (try clear hk); (try clear hi)))
  go_ret
  exact ⟨by first | rfl | (simp [errW_none, errW_some] <;> rfl) | (simp [*, errW_none, errW_some] <;> rfl), by repeat (first | (with_reducible first | exact HB.out | apply below_alloc | apply pw_below_drewN | apply below_drew1) | exact HB.out)⟩

end Go.Proofs.Ytkhgnaakcaghjaa.XB
