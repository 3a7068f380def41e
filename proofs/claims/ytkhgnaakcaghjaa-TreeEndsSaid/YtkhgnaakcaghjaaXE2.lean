/- Laid by xprint.py, a program of this session over the kit's print: for each Go function one Lean function of the same answers, and the walk that shows it. -/
import Derived.Test.YtkhgnaakcaghjaaXE0
import Derived.Test.YtkhgnaakcaghjaaXE1
namespace Go.Proofs.Ytkhgnaakcaghjaa.XE
open Go.RowKit Go.Proofs.Ytkhgnaakcaghjaa.Ext Go.Proofs.Ytkhgnaakcaghjaa.XA Go.Proofs.YtkhgnaakcaghjaaW.PrintWords Go.Proofs.YtkhgnaakcaghjaaW.PrintLast Go.Proofs.YtkhgnaakcaghjaaW.PrintMore
attribute [local go_sem] max2_int min2_int max_two min_two max_three min_three max_four min_four   -- for this text's walks alone
set_option linter.unusedVariables false
set_option linter.unusedSimpArgs false

/-! ### stolelaw7_TreeEnds: function 5 -/
mutual
def stolelaw7_TreeEnds.l0 : Nat → List Int → List ByteArray → List (S41) → List Int → List Int → Int → Option (Bool)
 | 0, _, _, _, _, _, _ => none
 | k + 1, x0, x3, x4, x5, x6, x7 => if x7 < (x0.length : Int) then (stolelaw7_TreeEnds.j1 k x0 x3 x4 x5 x6 x7 (decide (x7 < 40))) else (stolelaw7_TreeEnds.j1 k x0 x3 x4 x5 x6 x7 false)
def stolelaw7_TreeEnds.j1 : Nat → List Int → List ByteArray → List (S41) → List Int → List Int → Int → Bool → Option (Bool)
 | 0, _, _, _, _, _, _, _ => none
 | k + 1, x0, x3, x4, x5, x6, x7, x24 => if x24 = true then (if 0 ≤ x7 then (if x7 < (x0.length : Int) then (if (Int.tmod (rd x0 x7) 5) < 0 then (some true) else (if (Go.bits .and .i64 ((rd x0 x7) / 16) 1) = 0 then (if 0 ≤ (Int.tmod (rd x0 x7) 5) then (if (Int.tmod (rd x0 x7) 5) < (x3.length : Int) then ((stolelaw7_start.f (rdOf ByteArray.empty x3 (Int.tmod (rd x0 x7) 5))).bind fun bt131 => (if x4.length < 1954687338268 then ((some (x4 ++ [(⟨bt131.1, bt131.2.1, bt131.2.2.1, bt131.2.2.2.1, bt131.2.2.2.2⟩ : S41)] : List (S41))).bind fun y138 => (if (x5.length : Int) > 0 then (if 0 ≤ (wrap64 ((x5.length : Int) - 1)) then (if (wrap64 ((x5.length : Int) - 1)) < (x5.length : Int) then (if x6.length < 17592186044416 then ((some (x6 ++ [rd x5 (wrap64 ((x5.length : Int) - 1))] : List Int)).bind fun y142 => (if (Int.tmod (rd x0 x7) 5) < 3 then (if (x5.length : Int) < 32 then (if x5.length < 17592186044416 then (stolelaw7_TreeEnds.l0 k x0 x3 y138 (x5 ++ [(y142.length : Int)]) y142 (wrap64 (x7 + 1))) else (none)) else (stolelaw7_TreeEnds.l0 k x0 x3 y138 x5 y142 (wrap64 (x7 + 1)))) else (stolelaw7_TreeEnds.l0 k x0 x3 y138 x5 y142 (wrap64 (x7 + 1))))) else (none)) else (none)) else (none)) else (if x6.length < 17592186044416 then ((some (x6 ++ [0] : List Int)).bind fun y148 => (if (Int.tmod (rd x0 x7) 5) < 3 then (if (x5.length : Int) < 32 then (if x5.length < 17592186044416 then (stolelaw7_TreeEnds.l0 k x0 x3 y138 (x5 ++ [(y148.length : Int)]) y148 (wrap64 (x7 + 1))) else (none)) else (stolelaw7_TreeEnds.l0 k x0 x3 y138 x5 y148 (wrap64 (x7 + 1)))) else (stolelaw7_TreeEnds.l0 k x0 x3 y138 x5 y148 (wrap64 (x7 + 1))))) else (none)))) else (none))) else (none)) else (none)) else (if 0 ≤ (Int.tmod (rd x0 x7) 5) then (if (Int.tmod (rd x0 x7) 5) < (x3.length : Int) then ((stolelaw7_end.f (rdOf ByteArray.empty x3 (Int.tmod (rd x0 x7) 5))).bind fun bt155 => (if x4.length < 1954687338268 then (stolelaw7_TreeEnds.l1 k x0 x3 (x4 ++ [(⟨bt155.1, bt155.2.1, bt155.2.2.1, bt155.2.2.2.1, bt155.2.2.2.2⟩ : S41)]) x5 x6 x7 (Int.tmod (rd x0 x7) 5) (wrap64 ((x5.length : Int) - 1))) else (none))) else (none)) else (none)))) else (none)) else (none)) else ((tree_Build.f x4).bind fun bt179 => ((stolelaw0_Num.f bt179.2).bind fun t183 => (if t183 = 0 then (stolelaw7_TreeEnds.j3 k x6 bt179.1 ((bt179.1.length : Int) != (wrap64 ((x6.length : Int) + 1)))) else (stolelaw7_TreeEnds.j3 k x6 bt179.1 true))))
def stolelaw7_TreeEnds.l1 : Nat → List Int → List ByteArray → List (S41) → List Int → List Int → Int → Int → Int → Option (Bool)
 | 0, _, _, _, _, _, _, _, _ => none
 | k + 1, x0, x3, x4, x5, x6, x7, x8, x10 => if x10 ≥ 0 then (if 0 ≤ x10 then (if x10 < (x5.length : Int) then ((stolelaw7_at.f k x4 (rd x5 x10)).bind fun t166 => (if 0 ≤ t166 then (if t166 < (x4.length : Int) then (if 0 ≤ x8 then (if x8 < (x3.length : Int) then (if ((rd_T41 x4 t166).f1).toList = (rdOf ByteArray.empty x3 x8).toList then ((some (([] : List Int) : List Int)).bind fun y169 => (if x10 ≤ (x5.length : Int) then ((some (x5.take (x10 : Int).toNat : List Int)).bind fun y172 => (if y169.length + y172.length < 17592186044416 then (stolelaw7_TreeEnds.l0 k x0 x3 x4 (y169 ++ y172) x6 (wrap64 (x7 + 1))) else (none))) else (none))) else (stolelaw7_TreeEnds.l1 k x0 x3 x4 x5 x6 x7 x8 (wrap64 (x10 - 1)))) else (none)) else (none)) else (none)) else (none))) else (none)) else (none)) else (stolelaw7_TreeEnds.l0 k x0 x3 x4 x5 x6 (wrap64 (x7 + 1)))
def stolelaw7_TreeEnds.j3 : Nat → List Int → List (S38) → Bool → Option (Bool)
 | 0, _, _, _ => none
 | k + 1, x6, x11, x124 => if x124 = true then (some false) else (stolelaw7_TreeEnds.l2 k x6 x11 0)
def stolelaw7_TreeEnds.l2 : Nat → List Int → List (S38) → Int → Option (Bool)
 | 0, _, _, _ => none
 | k + 1, x6, x11, x13 => if x13 < (x6.length : Int) then (if 0 ≤ (wrap64 (x13 + 1)) then (if (wrap64 (x13 + 1)) < (x11.length : Int) then (if 0 ≤ x13 then (if ((rd_T38 x11 (wrap64 (x13 + 1))).f4) = (rd x6 x13) then (stolelaw7_TreeEnds.l2 k x6 x11 (wrap64 (x13 + 1))) else (some false)) else (none)) else (none)) else (none)) else (some true)
end
def stolelaw7_TreeEnds.f (k : Nat) (l0 : List Int) : Option (Bool) := (stolelaw7_awake.f).bind fun t124 => (if t124 = true then (stolelaw7_TreeEnds.l0 k l0 (([(⟨#[97]⟩ : ByteArray), (⟨#[98]⟩ : ByteArray), (⟨#[99]⟩ : ByteArray), (⟨#[98, 114]⟩ : ByteArray), (⟨#[105, 109, 103]⟩ : ByteArray)] : List ByteArray)) ([] : List (S41)) ([] : List Int) ([] : List Int) 0) else (some false))
theorem stolelaw7_TreeEnds.mono_l : ∀ k, (∀ y0 y1 y2 y3 y4 y5, LeO (stolelaw7_TreeEnds.l0 k y0 y1 y2 y3 y4 y5) (stolelaw7_TreeEnds.l0 (k + 1) y0 y1 y2 y3 y4 y5)) ∧ (∀ y0 y1 y2 y3 y4 y5 y6, LeO (stolelaw7_TreeEnds.j1 k y0 y1 y2 y3 y4 y5 y6) (stolelaw7_TreeEnds.j1 (k + 1) y0 y1 y2 y3 y4 y5 y6)) ∧ (∀ y0 y1 y2 y3 y4 y5 y6 y7, LeO (stolelaw7_TreeEnds.l1 k y0 y1 y2 y3 y4 y5 y6 y7) (stolelaw7_TreeEnds.l1 (k + 1) y0 y1 y2 y3 y4 y5 y6 y7)) ∧ (∀ y0 y1 y2, LeO (stolelaw7_TreeEnds.j3 k y0 y1 y2) (stolelaw7_TreeEnds.j3 (k + 1) y0 y1 y2)) ∧ (∀ y0 y1 y2, LeO (stolelaw7_TreeEnds.l2 k y0 y1 y2) (stolelaw7_TreeEnds.l2 (k + 1) y0 y1 y2))
 | 0 => ⟨fun _ _ _ _ _ _ r h => by simp [stolelaw7_TreeEnds.l0] at h, fun _ _ _ _ _ _ _ r h => by simp [stolelaw7_TreeEnds.j1] at h, fun _ _ _ _ _ _ _ _ r h => by simp [stolelaw7_TreeEnds.l1] at h, fun _ _ _ r h => by simp [stolelaw7_TreeEnds.j3] at h, fun _ _ _ r h => by simp [stolelaw7_TreeEnds.l2] at h⟩
 | k + 1 => by
  obtain ⟨ih0, ih1, ih2, ih3, ih4⟩ := stolelaw7_TreeEnds.mono_l k
  refine ⟨?_, ?_, ?_, ?_, ?_⟩
  ·intro y0 y1 y2 y3 y4 y5
   unfold stolelaw7_TreeEnds.l0
   repeat' first
   | (with_reducible exact ih0 _ _ _ _ _ _)
   | (with_reducible exact ih1 _ _ _ _ _ _ _)
   | (with_reducible exact ih2 _ _ _ _ _ _ _ _)
   | (with_reducible exact ih3 _ _ _)
   | (with_reducible exact ih4 _ _ _)
   | (with_reducible exact stolelaw7_at.mono _ _ _)
   | (with_reducible exact LeO.refl _)
   | (with_reducible exact LeO.none _)
   | (with_reducible refine LeO.ite ?_ ?_)
   | (with_reducible refine LeO.bind ?_ (fun _ => ?_))
   | exact ih0 _ _ _ _ _ _
   | exact ih1 _ _ _ _ _ _ _
   | exact ih2 _ _ _ _ _ _ _ _
   | exact ih3 _ _ _
   | exact ih4 _ _ _
   | exact stolelaw7_at.mono _ _ _
   | exact LeO.none _
   | refine LeO.ite ?_ ?_
   | refine LeO.bind ?_ (fun _ => ?_)
  ·intro y0 y1 y2 y3 y4 y5 y6
   unfold stolelaw7_TreeEnds.j1
   repeat' first
   | (with_reducible exact ih0 _ _ _ _ _ _)
   | (with_reducible exact ih1 _ _ _ _ _ _ _)
   | (with_reducible exact ih2 _ _ _ _ _ _ _ _)
   | (with_reducible exact ih3 _ _ _)
   | (with_reducible exact ih4 _ _ _)
   | (with_reducible exact stolelaw7_at.mono _ _ _)
   | (with_reducible exact LeO.refl _)
   | (with_reducible exact LeO.none _)
   | (with_reducible refine LeO.ite ?_ ?_)
   | (with_reducible refine LeO.bind ?_ (fun _ => ?_))
   | exact ih0 _ _ _ _ _ _
   | exact ih1 _ _ _ _ _ _ _
   | exact ih2 _ _ _ _ _ _ _ _
   | exact ih3 _ _ _
   | exact ih4 _ _ _
   | exact stolelaw7_at.mono _ _ _
   | exact LeO.none _
   | refine LeO.ite ?_ ?_
   | refine LeO.bind ?_ (fun _ => ?_)
  ·intro y0 y1 y2 y3 y4 y5 y6 y7
   unfold stolelaw7_TreeEnds.l1
   repeat' first
   | (with_reducible exact ih0 _ _ _ _ _ _)
   | (with_reducible exact ih1 _ _ _ _ _ _ _)
   | (with_reducible exact ih2 _ _ _ _ _ _ _ _)
   | (with_reducible exact ih3 _ _ _)
   | (with_reducible exact ih4 _ _ _)
   | (with_reducible exact stolelaw7_at.mono _ _ _)
   | (with_reducible exact LeO.refl _)
   | (with_reducible exact LeO.none _)
   | (with_reducible refine LeO.ite ?_ ?_)
   | (with_reducible refine LeO.bind ?_ (fun _ => ?_))
   | exact ih0 _ _ _ _ _ _
   | exact ih1 _ _ _ _ _ _ _
   | exact ih2 _ _ _ _ _ _ _ _
   | exact ih3 _ _ _
   | exact ih4 _ _ _
   | exact stolelaw7_at.mono _ _ _
   | exact LeO.none _
   | refine LeO.ite ?_ ?_
   | refine LeO.bind ?_ (fun _ => ?_)
  ·intro y0 y1 y2
   unfold stolelaw7_TreeEnds.j3
   repeat' first
   | (with_reducible exact ih0 _ _ _ _ _ _)
   | (with_reducible exact ih1 _ _ _ _ _ _ _)
   | (with_reducible exact ih2 _ _ _ _ _ _ _ _)
   | (with_reducible exact ih3 _ _ _)
   | (with_reducible exact ih4 _ _ _)
   | (with_reducible exact stolelaw7_at.mono _ _ _)
   | (with_reducible exact LeO.refl _)
   | (with_reducible exact LeO.none _)
   | (with_reducible refine LeO.ite ?_ ?_)
   | (with_reducible refine LeO.bind ?_ (fun _ => ?_))
   | exact ih0 _ _ _ _ _ _
   | exact ih1 _ _ _ _ _ _ _
   | exact ih2 _ _ _ _ _ _ _ _
   | exact ih3 _ _ _
   | exact ih4 _ _ _
   | exact stolelaw7_at.mono _ _ _
   | exact LeO.none _
   | refine LeO.ite ?_ ?_
   | refine LeO.bind ?_ (fun _ => ?_)
  ·intro y0 y1 y2
   unfold stolelaw7_TreeEnds.l2
   repeat' first
   | (with_reducible exact ih0 _ _ _ _ _ _)
   | (with_reducible exact ih1 _ _ _ _ _ _ _)
   | (with_reducible exact ih2 _ _ _ _ _ _ _ _)
   | (with_reducible exact ih3 _ _ _)
   | (with_reducible exact ih4 _ _ _)
   | (with_reducible exact stolelaw7_at.mono _ _ _)
   | (with_reducible exact LeO.refl _)
   | (with_reducible exact LeO.none _)
   | (with_reducible refine LeO.ite ?_ ?_)
   | (with_reducible refine LeO.bind ?_ (fun _ => ?_))
   | exact ih0 _ _ _ _ _ _
   | exact ih1 _ _ _ _ _ _ _
   | exact ih2 _ _ _ _ _ _ _ _
   | exact ih3 _ _ _
   | exact ih4 _ _ _
   | exact stolelaw7_at.mono _ _ _
   | exact LeO.none _
   | refine LeO.ite ?_ ?_
   | refine LeO.bind ?_ (fun _ => ?_)
theorem stolelaw7_TreeEnds.mono : ∀ a0 k, LeO (stolelaw7_TreeEnds.f k a0) (stolelaw7_TreeEnds.f (k + 1) a0) := by
 intro a0 k
 obtain ⟨ih0, ih1, ih2, ih3, ih4⟩ := stolelaw7_TreeEnds.mono_l k
 unfold stolelaw7_TreeEnds.f
 repeat' first
   | (with_reducible exact ih0 _ _ _ _ _ _)
   | (with_reducible exact ih1 _ _ _ _ _ _ _)
   | (with_reducible exact ih2 _ _ _ _ _ _ _ _)
   | (with_reducible exact ih3 _ _ _)
   | (with_reducible exact ih4 _ _ _)
   | (with_reducible exact stolelaw7_at.mono _ _ _)
   | (with_reducible exact LeO.refl _)
   | (with_reducible exact LeO.none _)
   | (with_reducible refine LeO.ite ?_ ?_)
   | (with_reducible refine LeO.bind ?_ (fun _ => ?_))
   | exact ih0 _ _ _ _ _ _
   | exact ih1 _ _ _ _ _ _ _
   | exact ih2 _ _ _ _ _ _ _ _
   | exact ih3 _ _ _
   | exact ih4 _ _ _
   | exact stolelaw7_at.mono _ _ _
   | exact LeO.none _
   | refine LeO.ite ?_ ?_
   | refine LeO.bind ?_ (fun _ => ?_)
end Go.Proofs.Ytkhgnaakcaghjaa.XE
