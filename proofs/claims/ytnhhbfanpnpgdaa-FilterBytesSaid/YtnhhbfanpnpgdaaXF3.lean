/- Laid by xprint.py, a program of this session over the kit's print: for each Go function one Lean function of the same answers, and the walk that shows it. -/
import Derived.Test.YtnhhbfanpnpgdaaXF0
import Derived.Test.YtnhhbfanpnpgdaaXF1
namespace Go.Proofs.Ytnhhbfanpnpgdaa.XF
open Go.RowKit Go.Proofs.Ytnhhbfanpnpgdaa.Ext Go.Proofs.YtnhhbfanpnpgdaaW.PrintWords Go.Proofs.YtnhhbfanpnpgdaaW.PrintLast Go.Proofs.YtnhhbfanpnpgdaaW.PrintMore
attribute [local go_sem] max2_int min2_int max_two min_two max_three min_three max_four min_four   -- for this text's walks alone
set_option linter.unusedVariables false
set_option linter.unusedSimpArgs false

/-! ### stolelaw12_FilterBytes: function 4 -/
def stolelaw12_FilterBytes.j0 : Nat → ByteArray → ByteArray → Bool → Option (Bool)
 | 0, _, _, _ => none
 | k + 1, x1, x6, x7 => if 1 + x6.size ≤ 9223372036854775807 then (if 1 + x6.size + 2 ≤ 9223372036854775807 then ((css_Filter.f k (((⟨#[49]⟩ : ByteArray) ++ x6) ++ (⟨#[112, 120]⟩ : ByteArray))).bind fun t128 => (if x1.size + x6.size ≤ 9223372036854775807 then ((css_Filter.f k (x1 ++ x6)).bind fun t129 => (if x7 = true then (if t128.toList = (((⟨#[49]⟩ : ByteArray) ++ x6) ++ (⟨#[112, 120]⟩ : ByteArray)).toList then (if t129.toList = (x1 ++ x6).toList then (some true) else (some (t129.toList == ([90, 103, 111, 116, 109, 112, 108, 90] : List UInt8)))) else (some false)) else (if t128.toList = ([90, 103, 111, 116, 109, 112, 108, 90] : List UInt8) then (if t129.toList = t128.toList then ((stolelaw0_Num.f 0).bind fun t130 => (some (t130 == 0))) else (some false)) else (some false)))) else (none))) else (none)) else (none)
def stolelaw12_FilterBytes.f (k : Nat) (a0 : Int) (a1 : ByteArray) : Option (Bool) := (stolelaw12_awake.f k).bind fun t124 => (if t124 = true then ((some (([(Go.bits .and .i64 a0 255) % 256] : List Int) : List Int)).bind fun y125 => (if (Go.bits .and .i64 a0 255) ≥ 48 then (if (Go.bits .and .i64 a0 255) ≤ 57 then (stolelaw12_FilterBytes.j0 k a1 (strOfNums y125) true) else (if (Go.bits .and .i64 a0 255) ≥ 65 then (if (Go.bits .and .i64 a0 255) ≤ 90 then (stolelaw12_FilterBytes.j0 k a1 (strOfNums y125) true) else (if (Go.bits .and .i64 a0 255) ≥ 97 then (if (Go.bits .and .i64 a0 255) ≤ 122 then (stolelaw12_FilterBytes.j0 k a1 (strOfNums y125) true) else (if (Go.bits .and .i64 a0 255) = 32 then (stolelaw12_FilterBytes.j0 k a1 (strOfNums y125) true) else (if (Go.bits .and .i64 a0 255) = 35 then (stolelaw12_FilterBytes.j0 k a1 (strOfNums y125) true) else (if (Go.bits .and .i64 a0 255) = 37 then (stolelaw12_FilterBytes.j0 k a1 (strOfNums y125) true) else (if (Go.bits .and .i64 a0 255) = 46 then (stolelaw12_FilterBytes.j0 k a1 (strOfNums y125) true) else (if (Go.bits .and .i64 a0 255) = 44 then (stolelaw12_FilterBytes.j0 k a1 (strOfNums y125) true) else (stolelaw12_FilterBytes.j0 k a1 (strOfNums y125) ((Go.bits .and .i64 a0 255) == 45)))))))) else (if (Go.bits .and .i64 a0 255) = 32 then (stolelaw12_FilterBytes.j0 k a1 (strOfNums y125) true) else (if (Go.bits .and .i64 a0 255) = 35 then (stolelaw12_FilterBytes.j0 k a1 (strOfNums y125) true) else (if (Go.bits .and .i64 a0 255) = 37 then (stolelaw12_FilterBytes.j0 k a1 (strOfNums y125) true) else (if (Go.bits .and .i64 a0 255) = 46 then (stolelaw12_FilterBytes.j0 k a1 (strOfNums y125) true) else (if (Go.bits .and .i64 a0 255) = 44 then (stolelaw12_FilterBytes.j0 k a1 (strOfNums y125) true) else (stolelaw12_FilterBytes.j0 k a1 (strOfNums y125) ((Go.bits .and .i64 a0 255) == 45))))))))) else (if (Go.bits .and .i64 a0 255) ≥ 97 then (if (Go.bits .and .i64 a0 255) ≤ 122 then (stolelaw12_FilterBytes.j0 k a1 (strOfNums y125) true) else (if (Go.bits .and .i64 a0 255) = 32 then (stolelaw12_FilterBytes.j0 k a1 (strOfNums y125) true) else (if (Go.bits .and .i64 a0 255) = 35 then (stolelaw12_FilterBytes.j0 k a1 (strOfNums y125) true) else (if (Go.bits .and .i64 a0 255) = 37 then (stolelaw12_FilterBytes.j0 k a1 (strOfNums y125) true) else (if (Go.bits .and .i64 a0 255) = 46 then (stolelaw12_FilterBytes.j0 k a1 (strOfNums y125) true) else (if (Go.bits .and .i64 a0 255) = 44 then (stolelaw12_FilterBytes.j0 k a1 (strOfNums y125) true) else (stolelaw12_FilterBytes.j0 k a1 (strOfNums y125) ((Go.bits .and .i64 a0 255) == 45)))))))) else (if (Go.bits .and .i64 a0 255) = 32 then (stolelaw12_FilterBytes.j0 k a1 (strOfNums y125) true) else (if (Go.bits .and .i64 a0 255) = 35 then (stolelaw12_FilterBytes.j0 k a1 (strOfNums y125) true) else (if (Go.bits .and .i64 a0 255) = 37 then (stolelaw12_FilterBytes.j0 k a1 (strOfNums y125) true) else (if (Go.bits .and .i64 a0 255) = 46 then (stolelaw12_FilterBytes.j0 k a1 (strOfNums y125) true) else (if (Go.bits .and .i64 a0 255) = 44 then (stolelaw12_FilterBytes.j0 k a1 (strOfNums y125) true) else (stolelaw12_FilterBytes.j0 k a1 (strOfNums y125) ((Go.bits .and .i64 a0 255) == 45)))))))))) else (if (Go.bits .and .i64 a0 255) ≥ 65 then (if (Go.bits .and .i64 a0 255) ≤ 90 then (stolelaw12_FilterBytes.j0 k a1 (strOfNums y125) true) else (if (Go.bits .and .i64 a0 255) ≥ 97 then (if (Go.bits .and .i64 a0 255) ≤ 122 then (stolelaw12_FilterBytes.j0 k a1 (strOfNums y125) true) else (if (Go.bits .and .i64 a0 255) = 32 then (stolelaw12_FilterBytes.j0 k a1 (strOfNums y125) true) else (if (Go.bits .and .i64 a0 255) = 35 then (stolelaw12_FilterBytes.j0 k a1 (strOfNums y125) true) else (if (Go.bits .and .i64 a0 255) = 37 then (stolelaw12_FilterBytes.j0 k a1 (strOfNums y125) true) else (if (Go.bits .and .i64 a0 255) = 46 then (stolelaw12_FilterBytes.j0 k a1 (strOfNums y125) true) else (if (Go.bits .and .i64 a0 255) = 44 then (stolelaw12_FilterBytes.j0 k a1 (strOfNums y125) true) else (stolelaw12_FilterBytes.j0 k a1 (strOfNums y125) ((Go.bits .and .i64 a0 255) == 45)))))))) else (if (Go.bits .and .i64 a0 255) = 32 then (stolelaw12_FilterBytes.j0 k a1 (strOfNums y125) true) else (if (Go.bits .and .i64 a0 255) = 35 then (stolelaw12_FilterBytes.j0 k a1 (strOfNums y125) true) else (if (Go.bits .and .i64 a0 255) = 37 then (stolelaw12_FilterBytes.j0 k a1 (strOfNums y125) true) else (if (Go.bits .and .i64 a0 255) = 46 then (stolelaw12_FilterBytes.j0 k a1 (strOfNums y125) true) else (if (Go.bits .and .i64 a0 255) = 44 then (stolelaw12_FilterBytes.j0 k a1 (strOfNums y125) true) else (stolelaw12_FilterBytes.j0 k a1 (strOfNums y125) ((Go.bits .and .i64 a0 255) == 45))))))))) else (if (Go.bits .and .i64 a0 255) ≥ 97 then (if (Go.bits .and .i64 a0 255) ≤ 122 then (stolelaw12_FilterBytes.j0 k a1 (strOfNums y125) true) else (if (Go.bits .and .i64 a0 255) = 32 then (stolelaw12_FilterBytes.j0 k a1 (strOfNums y125) true) else (if (Go.bits .and .i64 a0 255) = 35 then (stolelaw12_FilterBytes.j0 k a1 (strOfNums y125) true) else (if (Go.bits .and .i64 a0 255) = 37 then (stolelaw12_FilterBytes.j0 k a1 (strOfNums y125) true) else (if (Go.bits .and .i64 a0 255) = 46 then (stolelaw12_FilterBytes.j0 k a1 (strOfNums y125) true) else (if (Go.bits .and .i64 a0 255) = 44 then (stolelaw12_FilterBytes.j0 k a1 (strOfNums y125) true) else (stolelaw12_FilterBytes.j0 k a1 (strOfNums y125) ((Go.bits .and .i64 a0 255) == 45)))))))) else (if (Go.bits .and .i64 a0 255) = 32 then (stolelaw12_FilterBytes.j0 k a1 (strOfNums y125) true) else (if (Go.bits .and .i64 a0 255) = 35 then (stolelaw12_FilterBytes.j0 k a1 (strOfNums y125) true) else (if (Go.bits .and .i64 a0 255) = 37 then (stolelaw12_FilterBytes.j0 k a1 (strOfNums y125) true) else (if (Go.bits .and .i64 a0 255) = 46 then (stolelaw12_FilterBytes.j0 k a1 (strOfNums y125) true) else (if (Go.bits .and .i64 a0 255) = 44 then (stolelaw12_FilterBytes.j0 k a1 (strOfNums y125) true) else (stolelaw12_FilterBytes.j0 k a1 (strOfNums y125) ((Go.bits .and .i64 a0 255) == 45))))))))))) else (some false))
theorem stolelaw12_FilterBytes.mono_l : ∀ k, (∀ y0 y1 y2, LeO (stolelaw12_FilterBytes.j0 k y0 y1 y2) (stolelaw12_FilterBytes.j0 (k + 1) y0 y1 y2))
 | 0 => fun _ _ _ r h => by simp [stolelaw12_FilterBytes.j0] at h
 | k + 1 => by
  have ih0 := stolelaw12_FilterBytes.mono_l k
  ·intro y0 y1 y2
   unfold stolelaw12_FilterBytes.j0
   repeat' first
   | (with_reducible exact ih0 _ _ _)
   | (with_reducible exact css_Filter.mono _ _)
   | (with_reducible exact stolelaw12_awake.mono _)
   | (with_reducible exact LeO.refl _)
   | (with_reducible exact LeO.none _)
   | (with_reducible refine LeO.ite ?_ ?_)
   | (with_reducible refine LeO.bind ?_ (fun _ => ?_))
   | exact ih0 _ _ _
   | exact css_Filter.mono _ _
   | exact stolelaw12_awake.mono _
   | exact LeO.none _
   | refine LeO.ite ?_ ?_
   | refine LeO.bind ?_ (fun _ => ?_)
theorem stolelaw12_FilterBytes.mono : ∀ a0 a1 k, LeO (stolelaw12_FilterBytes.f k a0 a1) (stolelaw12_FilterBytes.f (k + 1) a0 a1) := by
 intro a0 a1 k
 have ih0 := stolelaw12_FilterBytes.mono_l k
 unfold stolelaw12_FilterBytes.f
 repeat' first
   | (with_reducible exact ih0 _ _ _)
   | (with_reducible exact css_Filter.mono _ _)
   | (with_reducible exact stolelaw12_awake.mono _)
   | (with_reducible exact LeO.refl _)
   | (with_reducible exact LeO.none _)
   | (with_reducible refine LeO.ite ?_ ?_)
   | (with_reducible refine LeO.bind ?_ (fun _ => ?_))
   | exact ih0 _ _ _
   | exact css_Filter.mono _ _
   | exact stolelaw12_awake.mono _
   | exact LeO.none _
   | refine LeO.ite ?_ ?_
   | refine LeO.bind ?_ (fun _ => ?_)
set_option maxHeartbeats 8000000 in
set_option maxRecDepth 100000 in
theorem stolelaw12_FilterBytes.calls (k : Nat) (a0 : Int) (a1 : ByteArray) (r : Bool) (w : World) (h : stolelaw12_FilterBytes.f k a0 a1 = some r) :
  Calls Try.prog 4 #[.int .i64 a0, .string a1] w fun e w' => e = .returned (.bool r) ∧ Below w.heap.size w w' := by
 have HB := Aside0.mk (Below.refl w.heap.size w)
 have H : ((stolelaw12_awake.f k).bind fun t124 => (if t124 = true then ((some (([(Go.bits .and .i64 a0 255) % 256] : List Int) : List Int)).bind fun y125 => (if (Go.bits .and .i64 a0 255) ≥ 48 then (if (Go.bits .and .i64 a0 255) ≤ 57 then (stolelaw12_FilterBytes.j0 k a1 (strOfNums y125) true) else (if (Go.bits .and .i64 a0 255) ≥ 65 then (if (Go.bits .and .i64 a0 255) ≤ 90 then (stolelaw12_FilterBytes.j0 k a1 (strOfNums y125) true) else (if (Go.bits .and .i64 a0 255) ≥ 97 then (if (Go.bits .and .i64 a0 255) ≤ 122 then (stolelaw12_FilterBytes.j0 k a1 (strOfNums y125) true) else (if (Go.bits .and .i64 a0 255) = 32 then (stolelaw12_FilterBytes.j0 k a1 (strOfNums y125) true) else (if (Go.bits .and .i64 a0 255) = 35 then (stolelaw12_FilterBytes.j0 k a1 (strOfNums y125) true) else (if (Go.bits .and .i64 a0 255) = 37 then (stolelaw12_FilterBytes.j0 k a1 (strOfNums y125) true) else (if (Go.bits .and .i64 a0 255) = 46 then (stolelaw12_FilterBytes.j0 k a1 (strOfNums y125) true) else (if (Go.bits .and .i64 a0 255) = 44 then (stolelaw12_FilterBytes.j0 k a1 (strOfNums y125) true) else (stolelaw12_FilterBytes.j0 k a1 (strOfNums y125) ((Go.bits .and .i64 a0 255) == 45)))))))) else (if (Go.bits .and .i64 a0 255) = 32 then (stolelaw12_FilterBytes.j0 k a1 (strOfNums y125) true) else (if (Go.bits .and .i64 a0 255) = 35 then (stolelaw12_FilterBytes.j0 k a1 (strOfNums y125) true) else (if (Go.bits .and .i64 a0 255) = 37 then (stolelaw12_FilterBytes.j0 k a1 (strOfNums y125) true) else (if (Go.bits .and .i64 a0 255) = 46 then (stolelaw12_FilterBytes.j0 k a1 (strOfNums y125) true) else (if (Go.bits .and .i64 a0 255) = 44 then (stolelaw12_FilterBytes.j0 k a1 (strOfNums y125) true) else (stolelaw12_FilterBytes.j0 k a1 (strOfNums y125) ((Go.bits .and .i64 a0 255) == 45))))))))) else (if (Go.bits .and .i64 a0 255) ≥ 97 then (if (Go.bits .and .i64 a0 255) ≤ 122 then (stolelaw12_FilterBytes.j0 k a1 (strOfNums y125) true) else (if (Go.bits .and .i64 a0 255) = 32 then (stolelaw12_FilterBytes.j0 k a1 (strOfNums y125) true) else (if (Go.bits .and .i64 a0 255) = 35 then (stolelaw12_FilterBytes.j0 k a1 (strOfNums y125) true) else (if (Go.bits .and .i64 a0 255) = 37 then (stolelaw12_FilterBytes.j0 k a1 (strOfNums y125) true) else (if (Go.bits .and .i64 a0 255) = 46 then (stolelaw12_FilterBytes.j0 k a1 (strOfNums y125) true) else (if (Go.bits .and .i64 a0 255) = 44 then (stolelaw12_FilterBytes.j0 k a1 (strOfNums y125) true) else (stolelaw12_FilterBytes.j0 k a1 (strOfNums y125) ((Go.bits .and .i64 a0 255) == 45)))))))) else (if (Go.bits .and .i64 a0 255) = 32 then (stolelaw12_FilterBytes.j0 k a1 (strOfNums y125) true) else (if (Go.bits .and .i64 a0 255) = 35 then (stolelaw12_FilterBytes.j0 k a1 (strOfNums y125) true) else (if (Go.bits .and .i64 a0 255) = 37 then (stolelaw12_FilterBytes.j0 k a1 (strOfNums y125) true) else (if (Go.bits .and .i64 a0 255) = 46 then (stolelaw12_FilterBytes.j0 k a1 (strOfNums y125) true) else (if (Go.bits .and .i64 a0 255) = 44 then (stolelaw12_FilterBytes.j0 k a1 (strOfNums y125) true) else (stolelaw12_FilterBytes.j0 k a1 (strOfNums y125) ((Go.bits .and .i64 a0 255) == 45)))))))))) else (if (Go.bits .and .i64 a0 255) ≥ 65 then (if (Go.bits .and .i64 a0 255) ≤ 90 then (stolelaw12_FilterBytes.j0 k a1 (strOfNums y125) true) else (if (Go.bits .and .i64 a0 255) ≥ 97 then (if (Go.bits .and .i64 a0 255) ≤ 122 then (stolelaw12_FilterBytes.j0 k a1 (strOfNums y125) true) else (if (Go.bits .and .i64 a0 255) = 32 then (stolelaw12_FilterBytes.j0 k a1 (strOfNums y125) true) else (if (Go.bits .and .i64 a0 255) = 35 then (stolelaw12_FilterBytes.j0 k a1 (strOfNums y125) true) else (if (Go.bits .and .i64 a0 255) = 37 then (stolelaw12_FilterBytes.j0 k a1 (strOfNums y125) true) else (if (Go.bits .and .i64 a0 255) = 46 then (stolelaw12_FilterBytes.j0 k a1 (strOfNums y125) true) else (if (Go.bits .and .i64 a0 255) = 44 then (stolelaw12_FilterBytes.j0 k a1 (strOfNums y125) true) else (stolelaw12_FilterBytes.j0 k a1 (strOfNums y125) ((Go.bits .and .i64 a0 255) == 45)))))))) else (if (Go.bits .and .i64 a0 255) = 32 then (stolelaw12_FilterBytes.j0 k a1 (strOfNums y125) true) else (if (Go.bits .and .i64 a0 255) = 35 then (stolelaw12_FilterBytes.j0 k a1 (strOfNums y125) true) else (if (Go.bits .and .i64 a0 255) = 37 then (stolelaw12_FilterBytes.j0 k a1 (strOfNums y125) true) else (if (Go.bits .and .i64 a0 255) = 46 then (stolelaw12_FilterBytes.j0 k a1 (strOfNums y125) true) else (if (Go.bits .and .i64 a0 255) = 44 then (stolelaw12_FilterBytes.j0 k a1 (strOfNums y125) true) else (stolelaw12_FilterBytes.j0 k a1 (strOfNums y125) ((Go.bits .and .i64 a0 255) == 45))))))))) else (if (Go.bits .and .i64 a0 255) ≥ 97 then (if (Go.bits .and .i64 a0 255) ≤ 122 then (stolelaw12_FilterBytes.j0 k a1 (strOfNums y125) true) else (if (Go.bits .and .i64 a0 255) = 32 then (stolelaw12_FilterBytes.j0 k a1 (strOfNums y125) true) else (if (Go.bits .and .i64 a0 255) = 35 then (stolelaw12_FilterBytes.j0 k a1 (strOfNums y125) true) else (if (Go.bits .and .i64 a0 255) = 37 then (stolelaw12_FilterBytes.j0 k a1 (strOfNums y125) true) else (if (Go.bits .and .i64 a0 255) = 46 then (stolelaw12_FilterBytes.j0 k a1 (strOfNums y125) true) else (if (Go.bits .and .i64 a0 255) = 44 then (stolelaw12_FilterBytes.j0 k a1 (strOfNums y125) true) else (stolelaw12_FilterBytes.j0 k a1 (strOfNums y125) ((Go.bits .and .i64 a0 255) == 45)))))))) else (if (Go.bits .and .i64 a0 255) = 32 then (stolelaw12_FilterBytes.j0 k a1 (strOfNums y125) true) else (if (Go.bits .and .i64 a0 255) = 35 then (stolelaw12_FilterBytes.j0 k a1 (strOfNums y125) true) else (if (Go.bits .and .i64 a0 255) = 37 then (stolelaw12_FilterBytes.j0 k a1 (strOfNums y125) true) else (if (Go.bits .and .i64 a0 255) = 46 then (stolelaw12_FilterBytes.j0 k a1 (strOfNums y125) true) else (if (Go.bits .and .i64 a0 255) = 44 then (stolelaw12_FilterBytes.j0 k a1 (strOfNums y125) true) else (stolelaw12_FilterBytes.j0 k a1 (strOfNums y125) ((Go.bits .and .i64 a0 255) == 45))))))))))) else (some false))) = some r := h
 clear h
 replace H := Option.bind_eq_some_iff.mp H
 obtain ⟨t124, A30, H⟩ := H
 replace H : (if t124 = true then ((some (([(Go.bits .and .i64 a0 255) % 256] : List Int) : List Int)).bind fun y125 => (if (Go.bits .and .i64 a0 255) ≥ 48 then (if (Go.bits .and .i64 a0 255) ≤ 57 then (stolelaw12_FilterBytes.j0 k a1 (strOfNums y125) true) else (if (Go.bits .and .i64 a0 255) ≥ 65 then (if (Go.bits .and .i64 a0 255) ≤ 90 then (stolelaw12_FilterBytes.j0 k a1 (strOfNums y125) true) else (if (Go.bits .and .i64 a0 255) ≥ 97 then (if (Go.bits .and .i64 a0 255) ≤ 122 then (stolelaw12_FilterBytes.j0 k a1 (strOfNums y125) true) else (if (Go.bits .and .i64 a0 255) = 32 then (stolelaw12_FilterBytes.j0 k a1 (strOfNums y125) true) else (if (Go.bits .and .i64 a0 255) = 35 then (stolelaw12_FilterBytes.j0 k a1 (strOfNums y125) true) else (if (Go.bits .and .i64 a0 255) = 37 then (stolelaw12_FilterBytes.j0 k a1 (strOfNums y125) true) else (if (Go.bits .and .i64 a0 255) = 46 then (stolelaw12_FilterBytes.j0 k a1 (strOfNums y125) true) else (if (Go.bits .and .i64 a0 255) = 44 then (stolelaw12_FilterBytes.j0 k a1 (strOfNums y125) true) else (stolelaw12_FilterBytes.j0 k a1 (strOfNums y125) ((Go.bits .and .i64 a0 255) == 45)))))))) else (if (Go.bits .and .i64 a0 255) = 32 then (stolelaw12_FilterBytes.j0 k a1 (strOfNums y125) true) else (if (Go.bits .and .i64 a0 255) = 35 then (stolelaw12_FilterBytes.j0 k a1 (strOfNums y125) true) else (if (Go.bits .and .i64 a0 255) = 37 then (stolelaw12_FilterBytes.j0 k a1 (strOfNums y125) true) else (if (Go.bits .and .i64 a0 255) = 46 then (stolelaw12_FilterBytes.j0 k a1 (strOfNums y125) true) else (if (Go.bits .and .i64 a0 255) = 44 then (stolelaw12_FilterBytes.j0 k a1 (strOfNums y125) true) else (stolelaw12_FilterBytes.j0 k a1 (strOfNums y125) ((Go.bits .and .i64 a0 255) == 45))))))))) else (if (Go.bits .and .i64 a0 255) ≥ 97 then (if (Go.bits .and .i64 a0 255) ≤ 122 then (stolelaw12_FilterBytes.j0 k a1 (strOfNums y125) true) else (if (Go.bits .and .i64 a0 255) = 32 then (stolelaw12_FilterBytes.j0 k a1 (strOfNums y125) true) else (if (Go.bits .and .i64 a0 255) = 35 then (stolelaw12_FilterBytes.j0 k a1 (strOfNums y125) true) else (if (Go.bits .and .i64 a0 255) = 37 then (stolelaw12_FilterBytes.j0 k a1 (strOfNums y125) true) else (if (Go.bits .and .i64 a0 255) = 46 then (stolelaw12_FilterBytes.j0 k a1 (strOfNums y125) true) else (if (Go.bits .and .i64 a0 255) = 44 then (stolelaw12_FilterBytes.j0 k a1 (strOfNums y125) true) else (stolelaw12_FilterBytes.j0 k a1 (strOfNums y125) ((Go.bits .and .i64 a0 255) == 45)))))))) else (if (Go.bits .and .i64 a0 255) = 32 then (stolelaw12_FilterBytes.j0 k a1 (strOfNums y125) true) else (if (Go.bits .and .i64 a0 255) = 35 then (stolelaw12_FilterBytes.j0 k a1 (strOfNums y125) true) else (if (Go.bits .and .i64 a0 255) = 37 then (stolelaw12_FilterBytes.j0 k a1 (strOfNums y125) true) else (if (Go.bits .and .i64 a0 255) = 46 then (stolelaw12_FilterBytes.j0 k a1 (strOfNums y125) true) else (if (Go.bits .and .i64 a0 255) = 44 then (stolelaw12_FilterBytes.j0 k a1 (strOfNums y125) true) else (stolelaw12_FilterBytes.j0 k a1 (strOfNums y125) ((Go.bits .and .i64 a0 255) == 45)))))))))) else (if (Go.bits .and .i64 a0 255) ≥ 65 then (if (Go.bits .and .i64 a0 255) ≤ 90 then (stolelaw12_FilterBytes.j0 k a1 (strOfNums y125) true) else (if (Go.bits .and .i64 a0 255) ≥ 97 then (if (Go.bits .and .i64 a0 255) ≤ 122 then (stolelaw12_FilterBytes.j0 k a1 (strOfNums y125) true) else (if (Go.bits .and .i64 a0 255) = 32 then (stolelaw12_FilterBytes.j0 k a1 (strOfNums y125) true) else (if (Go.bits .and .i64 a0 255) = 35 then (stolelaw12_FilterBytes.j0 k a1 (strOfNums y125) true) else (if (Go.bits .and .i64 a0 255) = 37 then (stolelaw12_FilterBytes.j0 k a1 (strOfNums y125) true) else (if (Go.bits .and .i64 a0 255) = 46 then (stolelaw12_FilterBytes.j0 k a1 (strOfNums y125) true) else (if (Go.bits .and .i64 a0 255) = 44 then (stolelaw12_FilterBytes.j0 k a1 (strOfNums y125) true) else (stolelaw12_FilterBytes.j0 k a1 (strOfNums y125) ((Go.bits .and .i64 a0 255) == 45)))))))) else (if (Go.bits .and .i64 a0 255) = 32 then (stolelaw12_FilterBytes.j0 k a1 (strOfNums y125) true) else (if (Go.bits .and .i64 a0 255) = 35 then (stolelaw12_FilterBytes.j0 k a1 (strOfNums y125) true) else (if (Go.bits .and .i64 a0 255) = 37 then (stolelaw12_FilterBytes.j0 k a1 (strOfNums y125) true) else (if (Go.bits .and .i64 a0 255) = 46 then (stolelaw12_FilterBytes.j0 k a1 (strOfNums y125) true) else (if (Go.bits .and .i64 a0 255) = 44 then (stolelaw12_FilterBytes.j0 k a1 (strOfNums y125) true) else (stolelaw12_FilterBytes.j0 k a1 (strOfNums y125) ((Go.bits .and .i64 a0 255) == 45))))))))) else (if (Go.bits .and .i64 a0 255) ≥ 97 then (if (Go.bits .and .i64 a0 255) ≤ 122 then (stolelaw12_FilterBytes.j0 k a1 (strOfNums y125) true) else (if (Go.bits .and .i64 a0 255) = 32 then (stolelaw12_FilterBytes.j0 k a1 (strOfNums y125) true) else (if (Go.bits .and .i64 a0 255) = 35 then (stolelaw12_FilterBytes.j0 k a1 (strOfNums y125) true) else (if (Go.bits .and .i64 a0 255) = 37 then (stolelaw12_FilterBytes.j0 k a1 (strOfNums y125) true) else (if (Go.bits .and .i64 a0 255) = 46 then (stolelaw12_FilterBytes.j0 k a1 (strOfNums y125) true) else (if (Go.bits .and .i64 a0 255) = 44 then (stolelaw12_FilterBytes.j0 k a1 (strOfNums y125) true) else (stolelaw12_FilterBytes.j0 k a1 (strOfNums y125) ((Go.bits .and .i64 a0 255) == 45)))))))) else (if (Go.bits .and .i64 a0 255) = 32 then (stolelaw12_FilterBytes.j0 k a1 (strOfNums y125) true) else (if (Go.bits .and .i64 a0 255) = 35 then (stolelaw12_FilterBytes.j0 k a1 (strOfNums y125) true) else (if (Go.bits .and .i64 a0 255) = 37 then (stolelaw12_FilterBytes.j0 k a1 (strOfNums y125) true) else (if (Go.bits .and .i64 a0 255) = 46 then (stolelaw12_FilterBytes.j0 k a1 (strOfNums y125) true) else (if (Go.bits .and .i64 a0 255) = 44 then (stolelaw12_FilterBytes.j0 k a1 (strOfNums y125) true) else (stolelaw12_FilterBytes.j0 k a1 (strOfNums y125) ((Go.bits .and .i64 a0 255) == 45))))))))))) else (some false)) = some r := H
 have A3 := Aside0.mk A30
 clear A30
 by_cases c4 : t124 = true
 ·subst c4
  have H1 : ((some (([(Go.bits .and .i64 a0 255) % 256] : List Int) : List Int)).bind fun y125 => (if (Go.bits .and .i64 a0 255) ≥ 48 then (if (Go.bits .and .i64 a0 255) ≤ 57 then (stolelaw12_FilterBytes.j0 k a1 (strOfNums y125) true) else (if (Go.bits .and .i64 a0 255) ≥ 65 then (if (Go.bits .and .i64 a0 255) ≤ 90 then (stolelaw12_FilterBytes.j0 k a1 (strOfNums y125) true) else (if (Go.bits .and .i64 a0 255) ≥ 97 then (if (Go.bits .and .i64 a0 255) ≤ 122 then (stolelaw12_FilterBytes.j0 k a1 (strOfNums y125) true) else (if (Go.bits .and .i64 a0 255) = 32 then (stolelaw12_FilterBytes.j0 k a1 (strOfNums y125) true) else (if (Go.bits .and .i64 a0 255) = 35 then (stolelaw12_FilterBytes.j0 k a1 (strOfNums y125) true) else (if (Go.bits .and .i64 a0 255) = 37 then (stolelaw12_FilterBytes.j0 k a1 (strOfNums y125) true) else (if (Go.bits .and .i64 a0 255) = 46 then (stolelaw12_FilterBytes.j0 k a1 (strOfNums y125) true) else (if (Go.bits .and .i64 a0 255) = 44 then (stolelaw12_FilterBytes.j0 k a1 (strOfNums y125) true) else (stolelaw12_FilterBytes.j0 k a1 (strOfNums y125) ((Go.bits .and .i64 a0 255) == 45)))))))) else (if (Go.bits .and .i64 a0 255) = 32 then (stolelaw12_FilterBytes.j0 k a1 (strOfNums y125) true) else (if (Go.bits .and .i64 a0 255) = 35 then (stolelaw12_FilterBytes.j0 k a1 (strOfNums y125) true) else (if (Go.bits .and .i64 a0 255) = 37 then (stolelaw12_FilterBytes.j0 k a1 (strOfNums y125) true) else (if (Go.bits .and .i64 a0 255) = 46 then (stolelaw12_FilterBytes.j0 k a1 (strOfNums y125) true) else (if (Go.bits .and .i64 a0 255) = 44 then (stolelaw12_FilterBytes.j0 k a1 (strOfNums y125) true) else (stolelaw12_FilterBytes.j0 k a1 (strOfNums y125) ((Go.bits .and .i64 a0 255) == 45))))))))) else (if (Go.bits .and .i64 a0 255) ≥ 97 then (if (Go.bits .and .i64 a0 255) ≤ 122 then (stolelaw12_FilterBytes.j0 k a1 (strOfNums y125) true) else (if (Go.bits .and .i64 a0 255) = 32 then (stolelaw12_FilterBytes.j0 k a1 (strOfNums y125) true) else (if (Go.bits .and .i64 a0 255) = 35 then (stolelaw12_FilterBytes.j0 k a1 (strOfNums y125) true) else (if (Go.bits .and .i64 a0 255) = 37 then (stolelaw12_FilterBytes.j0 k a1 (strOfNums y125) true) else (if (Go.bits .and .i64 a0 255) = 46 then (stolelaw12_FilterBytes.j0 k a1 (strOfNums y125) true) else (if (Go.bits .and .i64 a0 255) = 44 then (stolelaw12_FilterBytes.j0 k a1 (strOfNums y125) true) else (stolelaw12_FilterBytes.j0 k a1 (strOfNums y125) ((Go.bits .and .i64 a0 255) == 45)))))))) else (if (Go.bits .and .i64 a0 255) = 32 then (stolelaw12_FilterBytes.j0 k a1 (strOfNums y125) true) else (if (Go.bits .and .i64 a0 255) = 35 then (stolelaw12_FilterBytes.j0 k a1 (strOfNums y125) true) else (if (Go.bits .and .i64 a0 255) = 37 then (stolelaw12_FilterBytes.j0 k a1 (strOfNums y125) true) else (if (Go.bits .and .i64 a0 255) = 46 then (stolelaw12_FilterBytes.j0 k a1 (strOfNums y125) true) else (if (Go.bits .and .i64 a0 255) = 44 then (stolelaw12_FilterBytes.j0 k a1 (strOfNums y125) true) else (stolelaw12_FilterBytes.j0 k a1 (strOfNums y125) ((Go.bits .and .i64 a0 255) == 45)))))))))) else (if (Go.bits .and .i64 a0 255) ≥ 65 then (if (Go.bits .and .i64 a0 255) ≤ 90 then (stolelaw12_FilterBytes.j0 k a1 (strOfNums y125) true) else (if (Go.bits .and .i64 a0 255) ≥ 97 then (if (Go.bits .and .i64 a0 255) ≤ 122 then (stolelaw12_FilterBytes.j0 k a1 (strOfNums y125) true) else (if (Go.bits .and .i64 a0 255) = 32 then (stolelaw12_FilterBytes.j0 k a1 (strOfNums y125) true) else (if (Go.bits .and .i64 a0 255) = 35 then (stolelaw12_FilterBytes.j0 k a1 (strOfNums y125) true) else (if (Go.bits .and .i64 a0 255) = 37 then (stolelaw12_FilterBytes.j0 k a1 (strOfNums y125) true) else (if (Go.bits .and .i64 a0 255) = 46 then (stolelaw12_FilterBytes.j0 k a1 (strOfNums y125) true) else (if (Go.bits .and .i64 a0 255) = 44 then (stolelaw12_FilterBytes.j0 k a1 (strOfNums y125) true) else (stolelaw12_FilterBytes.j0 k a1 (strOfNums y125) ((Go.bits .and .i64 a0 255) == 45)))))))) else (if (Go.bits .and .i64 a0 255) = 32 then (stolelaw12_FilterBytes.j0 k a1 (strOfNums y125) true) else (if (Go.bits .and .i64 a0 255) = 35 then (stolelaw12_FilterBytes.j0 k a1 (strOfNums y125) true) else (if (Go.bits .and .i64 a0 255) = 37 then (stolelaw12_FilterBytes.j0 k a1 (strOfNums y125) true) else (if (Go.bits .and .i64 a0 255) = 46 then (stolelaw12_FilterBytes.j0 k a1 (strOfNums y125) true) else (if (Go.bits .and .i64 a0 255) = 44 then (stolelaw12_FilterBytes.j0 k a1 (strOfNums y125) true) else (stolelaw12_FilterBytes.j0 k a1 (strOfNums y125) ((Go.bits .and .i64 a0 255) == 45))))))))) else (if (Go.bits .and .i64 a0 255) ≥ 97 then (if (Go.bits .and .i64 a0 255) ≤ 122 then (stolelaw12_FilterBytes.j0 k a1 (strOfNums y125) true) else (if (Go.bits .and .i64 a0 255) = 32 then (stolelaw12_FilterBytes.j0 k a1 (strOfNums y125) true) else (if (Go.bits .and .i64 a0 255) = 35 then (stolelaw12_FilterBytes.j0 k a1 (strOfNums y125) true) else (if (Go.bits .and .i64 a0 255) = 37 then (stolelaw12_FilterBytes.j0 k a1 (strOfNums y125) true) else (if (Go.bits .and .i64 a0 255) = 46 then (stolelaw12_FilterBytes.j0 k a1 (strOfNums y125) true) else (if (Go.bits .and .i64 a0 255) = 44 then (stolelaw12_FilterBytes.j0 k a1 (strOfNums y125) true) else (stolelaw12_FilterBytes.j0 k a1 (strOfNums y125) ((Go.bits .and .i64 a0 255) == 45)))))))) else (if (Go.bits .and .i64 a0 255) = 32 then (stolelaw12_FilterBytes.j0 k a1 (strOfNums y125) true) else (if (Go.bits .and .i64 a0 255) = 35 then (stolelaw12_FilterBytes.j0 k a1 (strOfNums y125) true) else (if (Go.bits .and .i64 a0 255) = 37 then (stolelaw12_FilterBytes.j0 k a1 (strOfNums y125) true) else (if (Go.bits .and .i64 a0 255) = 46 then (stolelaw12_FilterBytes.j0 k a1 (strOfNums y125) true) else (if (Go.bits .and .i64 a0 255) = 44 then (stolelaw12_FilterBytes.j0 k a1 (strOfNums y125) true) else (stolelaw12_FilterBytes.j0 k a1 (strOfNums y125) ((Go.bits .and .i64 a0 255) == 45))))))))))) = some r := by rw [if_pos rfl] at H; exact H
  clear H
  have H := H1
  clear H1
  obtain ⟨y125, hy125⟩ : ∃ y_ : List Int, y_ = (([(Go.bits .and .i64 a0 255) % 256] : List Int)) := ⟨_, rfl⟩
  replace H : (if (Go.bits .and .i64 a0 255) ≥ 48 then (if (Go.bits .and .i64 a0 255) ≤ 57 then (stolelaw12_FilterBytes.j0 k a1 (strOfNums y125) true) else (if (Go.bits .and .i64 a0 255) ≥ 65 then (if (Go.bits .and .i64 a0 255) ≤ 90 then (stolelaw12_FilterBytes.j0 k a1 (strOfNums y125) true) else (if (Go.bits .and .i64 a0 255) ≥ 97 then (if (Go.bits .and .i64 a0 255) ≤ 122 then (stolelaw12_FilterBytes.j0 k a1 (strOfNums y125) true) else (if (Go.bits .and .i64 a0 255) = 32 then (stolelaw12_FilterBytes.j0 k a1 (strOfNums y125) true) else (if (Go.bits .and .i64 a0 255) = 35 then (stolelaw12_FilterBytes.j0 k a1 (strOfNums y125) true) else (if (Go.bits .and .i64 a0 255) = 37 then (stolelaw12_FilterBytes.j0 k a1 (strOfNums y125) true) else (if (Go.bits .and .i64 a0 255) = 46 then (stolelaw12_FilterBytes.j0 k a1 (strOfNums y125) true) else (if (Go.bits .and .i64 a0 255) = 44 then (stolelaw12_FilterBytes.j0 k a1 (strOfNums y125) true) else (stolelaw12_FilterBytes.j0 k a1 (strOfNums y125) ((Go.bits .and .i64 a0 255) == 45)))))))) else (if (Go.bits .and .i64 a0 255) = 32 then (stolelaw12_FilterBytes.j0 k a1 (strOfNums y125) true) else (if (Go.bits .and .i64 a0 255) = 35 then (stolelaw12_FilterBytes.j0 k a1 (strOfNums y125) true) else (if (Go.bits .and .i64 a0 255) = 37 then (stolelaw12_FilterBytes.j0 k a1 (strOfNums y125) true) else (if (Go.bits .and .i64 a0 255) = 46 then (stolelaw12_FilterBytes.j0 k a1 (strOfNums y125) true) else (if (Go.bits .and .i64 a0 255) = 44 then (stolelaw12_FilterBytes.j0 k a1 (strOfNums y125) true) else (stolelaw12_FilterBytes.j0 k a1 (strOfNums y125) ((Go.bits .and .i64 a0 255) == 45))))))))) else (if (Go.bits .and .i64 a0 255) ≥ 97 then (if (Go.bits .and .i64 a0 255) ≤ 122 then (stolelaw12_FilterBytes.j0 k a1 (strOfNums y125) true) else (if (Go.bits .and .i64 a0 255) = 32 then (stolelaw12_FilterBytes.j0 k a1 (strOfNums y125) true) else (if (Go.bits .and .i64 a0 255) = 35 then (stolelaw12_FilterBytes.j0 k a1 (strOfNums y125) true) else (if (Go.bits .and .i64 a0 255) = 37 then (stolelaw12_FilterBytes.j0 k a1 (strOfNums y125) true) else (if (Go.bits .and .i64 a0 255) = 46 then (stolelaw12_FilterBytes.j0 k a1 (strOfNums y125) true) else (if (Go.bits .and .i64 a0 255) = 44 then (stolelaw12_FilterBytes.j0 k a1 (strOfNums y125) true) else (stolelaw12_FilterBytes.j0 k a1 (strOfNums y125) ((Go.bits .and .i64 a0 255) == 45)))))))) else (if (Go.bits .and .i64 a0 255) = 32 then (stolelaw12_FilterBytes.j0 k a1 (strOfNums y125) true) else (if (Go.bits .and .i64 a0 255) = 35 then (stolelaw12_FilterBytes.j0 k a1 (strOfNums y125) true) else (if (Go.bits .and .i64 a0 255) = 37 then (stolelaw12_FilterBytes.j0 k a1 (strOfNums y125) true) else (if (Go.bits .and .i64 a0 255) = 46 then (stolelaw12_FilterBytes.j0 k a1 (strOfNums y125) true) else (if (Go.bits .and .i64 a0 255) = 44 then (stolelaw12_FilterBytes.j0 k a1 (strOfNums y125) true) else (stolelaw12_FilterBytes.j0 k a1 (strOfNums y125) ((Go.bits .and .i64 a0 255) == 45)))))))))) else (if (Go.bits .and .i64 a0 255) ≥ 65 then (if (Go.bits .and .i64 a0 255) ≤ 90 then (stolelaw12_FilterBytes.j0 k a1 (strOfNums y125) true) else (if (Go.bits .and .i64 a0 255) ≥ 97 then (if (Go.bits .and .i64 a0 255) ≤ 122 then (stolelaw12_FilterBytes.j0 k a1 (strOfNums y125) true) else (if (Go.bits .and .i64 a0 255) = 32 then (stolelaw12_FilterBytes.j0 k a1 (strOfNums y125) true) else (if (Go.bits .and .i64 a0 255) = 35 then (stolelaw12_FilterBytes.j0 k a1 (strOfNums y125) true) else (if (Go.bits .and .i64 a0 255) = 37 then (stolelaw12_FilterBytes.j0 k a1 (strOfNums y125) true) else (if (Go.bits .and .i64 a0 255) = 46 then (stolelaw12_FilterBytes.j0 k a1 (strOfNums y125) true) else (if (Go.bits .and .i64 a0 255) = 44 then (stolelaw12_FilterBytes.j0 k a1 (strOfNums y125) true) else (stolelaw12_FilterBytes.j0 k a1 (strOfNums y125) ((Go.bits .and .i64 a0 255) == 45)))))))) else (if (Go.bits .and .i64 a0 255) = 32 then (stolelaw12_FilterBytes.j0 k a1 (strOfNums y125) true) else (if (Go.bits .and .i64 a0 255) = 35 then (stolelaw12_FilterBytes.j0 k a1 (strOfNums y125) true) else (if (Go.bits .and .i64 a0 255) = 37 then (stolelaw12_FilterBytes.j0 k a1 (strOfNums y125) true) else (if (Go.bits .and .i64 a0 255) = 46 then (stolelaw12_FilterBytes.j0 k a1 (strOfNums y125) true) else (if (Go.bits .and .i64 a0 255) = 44 then (stolelaw12_FilterBytes.j0 k a1 (strOfNums y125) true) else (stolelaw12_FilterBytes.j0 k a1 (strOfNums y125) ((Go.bits .and .i64 a0 255) == 45))))))))) else (if (Go.bits .and .i64 a0 255) ≥ 97 then (if (Go.bits .and .i64 a0 255) ≤ 122 then (stolelaw12_FilterBytes.j0 k a1 (strOfNums y125) true) else (if (Go.bits .and .i64 a0 255) = 32 then (stolelaw12_FilterBytes.j0 k a1 (strOfNums y125) true) else (if (Go.bits .and .i64 a0 255) = 35 then (stolelaw12_FilterBytes.j0 k a1 (strOfNums y125) true) else (if (Go.bits .and .i64 a0 255) = 37 then (stolelaw12_FilterBytes.j0 k a1 (strOfNums y125) true) else (if (Go.bits .and .i64 a0 255) = 46 then (stolelaw12_FilterBytes.j0 k a1 (strOfNums y125) true) else (if (Go.bits .and .i64 a0 255) = 44 then (stolelaw12_FilterBytes.j0 k a1 (strOfNums y125) true) else (stolelaw12_FilterBytes.j0 k a1 (strOfNums y125) ((Go.bits .and .i64 a0 255) == 45)))))))) else (if (Go.bits .and .i64 a0 255) = 32 then (stolelaw12_FilterBytes.j0 k a1 (strOfNums y125) true) else (if (Go.bits .and .i64 a0 255) = 35 then (stolelaw12_FilterBytes.j0 k a1 (strOfNums y125) true) else (if (Go.bits .and .i64 a0 255) = 37 then (stolelaw12_FilterBytes.j0 k a1 (strOfNums y125) true) else (if (Go.bits .and .i64 a0 255) = 46 then (stolelaw12_FilterBytes.j0 k a1 (strOfNums y125) true) else (if (Go.bits .and .i64 a0 255) = 44 then (stolelaw12_FilterBytes.j0 k a1 (strOfNums y125) true) else (stolelaw12_FilterBytes.j0 k a1 (strOfNums y125) ((Go.bits .and .i64 a0 255) == 45)))))))))) = some r := by first | (rw [hy125]; with_reducible exact H) | (have H2_ := (Option.bind_some _ _).symm.trans H; rw [hy125]; with_reducible exact H2_) | (have H2_ := (Option.bind_some _ _).symm.trans H; with_reducible exact H2_) | with_reducible exact H | (rw [hy125]; exact H) | exact H
  have Ny125 := Aside0.mk hy125
  clear hy125
  have HC5 := Aside0.mk H
  clear H
  go_enter Try.func4, Try.ntmps4
  go_upto_region 5 with (first | ((with_reducible refine gate_callee (f := 14) rfl ?_); refine goesL_ (some 10) rfl rfl Try.func14 (by kernel_rfl) rfl #[] rfl (by (try simp only [List.map_toArray, List.map_cons, List.map_nil]); first | done | rfl | (simp only [List.length_drop, List.length_take]; rfl)) ?_; (with_reducible refine (stolelaw12_awake.calls k  true _ A3.out).mono ?_); rintro e w' ⟨rfl, ⟨nd, rfl⟩⟩; refine ⟨_, rfl, ?_⟩) | ((with_reducible refine gate_dst (N := 16) rfl ?_); refine Kd.R_lit (Kd.int .u8) _ 5 ?hg (N := 16) ?hd (xs := ([(Go.bits .and .i64 a0 255) % 256] : List Int)) (inner := [.int .u8 ((Go.bits .and .i64 a0 255) % 256)]) (ok := fun _ => True) (okp := fun _ => True) ?hr ?hp (fun _ hk => hk) trivial (Below.refl _ _) (Nat.le_refl _) (by simp) ?_; (case hd => rfl); (case hg => rfl); (case hr => first | (go_simp; done) | (go_simp; rfl)); (case hp => exact (Reps.one (show Kd.M (Kd.int .u8) _ _ _ ((Go.bits .and .i64 a0 255) % 256) [.int .u8 ((Go.bits .and .i64 a0 255) % 256)] from rfl) (Reps.none _ _))); intro v126 w6 ho7 hb hg_ hnew_; clear hg_ hnew_; (first | rw [← Ny125.out] at ho7 | (simp only [Int.reduceToNat] at ho7; rw [← Ny125.out] at ho7)); have n0_ := Aside0.mk (Kd.R_lower ho7 (below_size (by repeat (first | (with_reducible first | exact HB.out | apply below_alloc | apply pw_below_drewN | apply below_drew1) | exact HB.out)))); have n1_ := Aside0.mk (below_step (by repeat (first | (with_reducible first | exact HB.out | apply below_alloc | apply pw_below_drewN | apply below_drew1) | exact HB.out)) hb); clear HB; have HO127 := n0_; have HB := n1_; clear n0_ n1_; clear hb ho7; have hcv8 := own_string (P := Try.prog) Try.underlying25 Try.underlying5 Try.underlying9 (Kd.own_of_R HO127.out)))
  (try simp only [Act.put, List.setIfInBounds_toArray, List.set_cons_zero, List.set_cons_succ])
  go_cut [7] (fun v7 wc => ∃ (kq : Nat) (x7_4 : Bool), v7 = .bool x7_4 ∧ Aside0 (stolelaw12_FilterBytes.j0 kq a1 (strOfNums y125) x7_4 = some r) ∧ Aside0 (kq ≤ k) ∧ Aside0 (Below w.heap.size w wc))
  case first =>
   have H := HC5.out
   clear HC5
   by_cases c9 : (Go.bits .and .i64 a0 255) ≥ 48
   ·rw [if_pos c9] at H
    have c9b0 : decide (48 ≤ (Go.bits .and .i64 a0 255)) = true := decide_eq_true c9
    clear c9
    (first | rw [c9b0] | (simp only [i64_w, i32_w]; rw [c9b0]) | skip)
    by_cases c10 : (Go.bits .and .i64 a0 255) ≤ 57
    ·rw [if_pos c10] at H
     have c10b0 : decide ((Go.bits .and .i64 a0 255) ≤ 57) = true := decide_eq_true c10
     clear c10
     have H' := Aside0.mk H
     clear H
     go_wp2
     go_meet
     case rel => exact ⟨_, (true), (by first | rfl | (simp; done) | (simp [*]; done)), H', ⟨by first | omega | exact Nat.le_refl _⟩, ⟨by repeat (first | (with_reducible first | exact HB.out | apply below_alloc | apply pw_below_drewN | apply below_drew1) | exact HB.out)⟩⟩
    ·rw [if_neg c10] at H
     have c10b0 : decide ((Go.bits .and .i64 a0 255) ≤ 57) = false := decide_eq_false c10
     clear c10
     by_cases c11 : (Go.bits .and .i64 a0 255) ≥ 65
     ·rw [if_pos c11] at H
      have c11b0 : decide (65 ≤ (Go.bits .and .i64 a0 255)) = true := decide_eq_true c11
      clear c11
      by_cases c12 : (Go.bits .and .i64 a0 255) ≤ 90
      ·rw [if_pos c12] at H
       have c12b0 : decide ((Go.bits .and .i64 a0 255) ≤ 90) = true := decide_eq_true c12
       clear c12
       have H' := Aside0.mk H
       clear H
       go_wp2
       go_meet
       case rel => exact ⟨_, (true), (by first | rfl | (simp; done) | (simp [*]; done)), H', ⟨by first | omega | exact Nat.le_refl _⟩, ⟨by repeat (first | (with_reducible first | exact HB.out | apply below_alloc | apply pw_below_drewN | apply below_drew1) | exact HB.out)⟩⟩
      ·rw [if_neg c12] at H
       have c12b0 : decide ((Go.bits .and .i64 a0 255) ≤ 90) = false := decide_eq_false c12
       clear c12
       by_cases c13 : (Go.bits .and .i64 a0 255) ≥ 97
       ·rw [if_pos c13] at H
        have c13b0 : decide (97 ≤ (Go.bits .and .i64 a0 255)) = true := decide_eq_true c13
        clear c13
        by_cases c14 : (Go.bits .and .i64 a0 255) ≤ 122
        ·rw [if_pos c14] at H
         have c14b0 : decide ((Go.bits .and .i64 a0 255) ≤ 122) = true := decide_eq_true c14
         clear c14
         have H' := Aside0.mk H
         clear H
         go_wp2
         go_meet
         case rel => exact ⟨_, (true), (by first | rfl | (simp; done) | (simp [*]; done)), H', ⟨by first | omega | exact Nat.le_refl _⟩, ⟨by repeat (first | (with_reducible first | exact HB.out | apply below_alloc | apply pw_below_drewN | apply below_drew1) | exact HB.out)⟩⟩
        ·rw [if_neg c14] at H
         have c14b0 : decide ((Go.bits .and .i64 a0 255) ≤ 122) = false := decide_eq_false c14
         clear c14
         by_cases c15 : (Go.bits .and .i64 a0 255) = 32
         ·rw [if_pos c15] at H
          have c15b0 : ((Go.bits .and .i64 a0 255) == 32) = true := beq_iff_eq.mpr c15
          have c15b1 : ((Go.bits .and .i64 a0 255) != 32) = false := bne_eq_false_iff_eq.mpr c15
          clear c15
          have H' := Aside0.mk H
          clear H
          go_wp2
          go_meet
          case rel => exact ⟨_, (true), (by first | rfl | (simp; done) | (simp [*]; done)), H', ⟨by first | omega | exact Nat.le_refl _⟩, ⟨by repeat (first | (with_reducible first | exact HB.out | apply below_alloc | apply pw_below_drewN | apply below_drew1) | exact HB.out)⟩⟩
         ·rw [if_neg c15] at H
          have c15b0 : ((Go.bits .and .i64 a0 255) == 32) = false := beq_eq_false_iff_ne.mpr c15
          have c15b1 : ((Go.bits .and .i64 a0 255) != 32) = true := bne_iff_ne.mpr c15
          by_cases c16 : (Go.bits .and .i64 a0 255) = 35
          ·rw [if_pos c16] at H
           have c16b0 : ((Go.bits .and .i64 a0 255) == 35) = true := beq_iff_eq.mpr c16
           have c16b1 : ((Go.bits .and .i64 a0 255) != 35) = false := bne_eq_false_iff_eq.mpr c16
           clear c16
           have H' := Aside0.mk H
           clear H
           go_wp2
           go_meet
           case rel => exact ⟨_, (true), (by first | rfl | (simp; done) | (simp [*]; done)), H', ⟨by first | omega | exact Nat.le_refl _⟩, ⟨by repeat (first | (with_reducible first | exact HB.out | apply below_alloc | apply pw_below_drewN | apply below_drew1) | exact HB.out)⟩⟩
          ·rw [if_neg c16] at H
           have c16b0 : ((Go.bits .and .i64 a0 255) == 35) = false := beq_eq_false_iff_ne.mpr c16
           have c16b1 : ((Go.bits .and .i64 a0 255) != 35) = true := bne_iff_ne.mpr c16
           by_cases c17 : (Go.bits .and .i64 a0 255) = 37
           ·rw [if_pos c17] at H
            have c17b0 : ((Go.bits .and .i64 a0 255) == 37) = true := beq_iff_eq.mpr c17
            have c17b1 : ((Go.bits .and .i64 a0 255) != 37) = false := bne_eq_false_iff_eq.mpr c17
            clear c17
            have H' := Aside0.mk H
            clear H
            go_wp2
            go_meet
            case rel => exact ⟨_, (true), (by first | rfl | (simp; done) | (simp [*]; done)), H', ⟨by first | omega | exact Nat.le_refl _⟩, ⟨by repeat (first | (with_reducible first | exact HB.out | apply below_alloc | apply pw_below_drewN | apply below_drew1) | exact HB.out)⟩⟩
           ·rw [if_neg c17] at H
            have c17b0 : ((Go.bits .and .i64 a0 255) == 37) = false := beq_eq_false_iff_ne.mpr c17
            have c17b1 : ((Go.bits .and .i64 a0 255) != 37) = true := bne_iff_ne.mpr c17
            by_cases c18 : (Go.bits .and .i64 a0 255) = 46
            ·rw [if_pos c18] at H
             have c18b0 : ((Go.bits .and .i64 a0 255) == 46) = true := beq_iff_eq.mpr c18
             have c18b1 : ((Go.bits .and .i64 a0 255) != 46) = false := bne_eq_false_iff_eq.mpr c18
             clear c18
             have H' := Aside0.mk H
             clear H
             go_wp2
             go_meet
             case rel => exact ⟨_, (true), (by first | rfl | (simp; done) | (simp [*]; done)), H', ⟨by first | omega | exact Nat.le_refl _⟩, ⟨by repeat (first | (with_reducible first | exact HB.out | apply below_alloc | apply pw_below_drewN | apply below_drew1) | exact HB.out)⟩⟩
            ·rw [if_neg c18] at H
             have c18b0 : ((Go.bits .and .i64 a0 255) == 46) = false := beq_eq_false_iff_ne.mpr c18
             have c18b1 : ((Go.bits .and .i64 a0 255) != 46) = true := bne_iff_ne.mpr c18
             by_cases c19 : (Go.bits .and .i64 a0 255) = 44
             ·rw [if_pos c19] at H
              have c19b0 : ((Go.bits .and .i64 a0 255) == 44) = true := beq_iff_eq.mpr c19
              have c19b1 : ((Go.bits .and .i64 a0 255) != 44) = false := bne_eq_false_iff_eq.mpr c19
              clear c19
              have H' := Aside0.mk H
              clear H
              go_wp2
              go_meet
              case rel => exact ⟨_, (true), (by first | rfl | (simp; done) | (simp [*]; done)), H', ⟨by first | omega | exact Nat.le_refl _⟩, ⟨by repeat (first | (with_reducible first | exact HB.out | apply below_alloc | apply pw_below_drewN | apply below_drew1) | exact HB.out)⟩⟩
             ·rw [if_neg c19] at H
              have c19b0 : ((Go.bits .and .i64 a0 255) == 44) = false := beq_eq_false_iff_ne.mpr c19
              have c19b1 : ((Go.bits .and .i64 a0 255) != 44) = true := bne_iff_ne.mpr c19
              have H' := Aside0.mk H
              clear H
              go_wp2
              go_meet
              case rel => exact ⟨_, (((Go.bits .and .i64 a0 255) == 45)), (by first | rfl | (simp; done) | (simp [*]; done)), H', ⟨by first | omega | exact Nat.le_refl _⟩, ⟨by repeat (first | (with_reducible first | exact HB.out | apply below_alloc | apply pw_below_drewN | apply below_drew1) | exact HB.out)⟩⟩
       ·rw [if_neg c13] at H
        have c13b0 : decide (97 ≤ (Go.bits .and .i64 a0 255)) = false := decide_eq_false c13
        clear c13
        by_cases c20 : (Go.bits .and .i64 a0 255) = 32
        ·rw [if_pos c20] at H
         have c20b0 : ((Go.bits .and .i64 a0 255) == 32) = true := beq_iff_eq.mpr c20
         have c20b1 : ((Go.bits .and .i64 a0 255) != 32) = false := bne_eq_false_iff_eq.mpr c20
         clear c20
         have H' := Aside0.mk H
         clear H
         go_wp2
         go_meet
         case rel => exact ⟨_, (true), (by first | rfl | (simp; done) | (simp [*]; done)), H', ⟨by first | omega | exact Nat.le_refl _⟩, ⟨by repeat (first | (with_reducible first | exact HB.out | apply below_alloc | apply pw_below_drewN | apply below_drew1) | exact HB.out)⟩⟩
        ·rw [if_neg c20] at H
         have c20b0 : ((Go.bits .and .i64 a0 255) == 32) = false := beq_eq_false_iff_ne.mpr c20
         have c20b1 : ((Go.bits .and .i64 a0 255) != 32) = true := bne_iff_ne.mpr c20
         by_cases c21 : (Go.bits .and .i64 a0 255) = 35
         ·rw [if_pos c21] at H
          have c21b0 : ((Go.bits .and .i64 a0 255) == 35) = true := beq_iff_eq.mpr c21
          have c21b1 : ((Go.bits .and .i64 a0 255) != 35) = false := bne_eq_false_iff_eq.mpr c21
          clear c21
          have H' := Aside0.mk H
          clear H
          go_wp2
          go_meet
          case rel => exact ⟨_, (true), (by first | rfl | (simp; done) | (simp [*]; done)), H', ⟨by first | omega | exact Nat.le_refl _⟩, ⟨by repeat (first | (with_reducible first | exact HB.out | apply below_alloc | apply pw_below_drewN | apply below_drew1) | exact HB.out)⟩⟩
         ·rw [if_neg c21] at H
          have c21b0 : ((Go.bits .and .i64 a0 255) == 35) = false := beq_eq_false_iff_ne.mpr c21
          have c21b1 : ((Go.bits .and .i64 a0 255) != 35) = true := bne_iff_ne.mpr c21
          by_cases c22 : (Go.bits .and .i64 a0 255) = 37
          ·rw [if_pos c22] at H
           have c22b0 : ((Go.bits .and .i64 a0 255) == 37) = true := beq_iff_eq.mpr c22
           have c22b1 : ((Go.bits .and .i64 a0 255) != 37) = false := bne_eq_false_iff_eq.mpr c22
           clear c22
           have H' := Aside0.mk H
           clear H
           go_wp2
           go_meet
           case rel => exact ⟨_, (true), (by first | rfl | (simp; done) | (simp [*]; done)), H', ⟨by first | omega | exact Nat.le_refl _⟩, ⟨by repeat (first | (with_reducible first | exact HB.out | apply below_alloc | apply pw_below_drewN | apply below_drew1) | exact HB.out)⟩⟩
          ·rw [if_neg c22] at H
           have c22b0 : ((Go.bits .and .i64 a0 255) == 37) = false := beq_eq_false_iff_ne.mpr c22
           have c22b1 : ((Go.bits .and .i64 a0 255) != 37) = true := bne_iff_ne.mpr c22
           by_cases c23 : (Go.bits .and .i64 a0 255) = 46
           ·rw [if_pos c23] at H
            have c23b0 : ((Go.bits .and .i64 a0 255) == 46) = true := beq_iff_eq.mpr c23
            have c23b1 : ((Go.bits .and .i64 a0 255) != 46) = false := bne_eq_false_iff_eq.mpr c23
            clear c23
            have H' := Aside0.mk H
            clear H
            go_wp2
            go_meet
            case rel => exact ⟨_, (true), (by first | rfl | (simp; done) | (simp [*]; done)), H', ⟨by first | omega | exact Nat.le_refl _⟩, ⟨by repeat (first | (with_reducible first | exact HB.out | apply below_alloc | apply pw_below_drewN | apply below_drew1) | exact HB.out)⟩⟩
           ·rw [if_neg c23] at H
            have c23b0 : ((Go.bits .and .i64 a0 255) == 46) = false := beq_eq_false_iff_ne.mpr c23
            have c23b1 : ((Go.bits .and .i64 a0 255) != 46) = true := bne_iff_ne.mpr c23
            by_cases c24 : (Go.bits .and .i64 a0 255) = 44
            ·rw [if_pos c24] at H
             have c24b0 : ((Go.bits .and .i64 a0 255) == 44) = true := beq_iff_eq.mpr c24
             have c24b1 : ((Go.bits .and .i64 a0 255) != 44) = false := bne_eq_false_iff_eq.mpr c24
             clear c24
             have H' := Aside0.mk H
             clear H
             go_wp2
             go_meet
             case rel => exact ⟨_, (true), (by first | rfl | (simp; done) | (simp [*]; done)), H', ⟨by first | omega | exact Nat.le_refl _⟩, ⟨by repeat (first | (with_reducible first | exact HB.out | apply below_alloc | apply pw_below_drewN | apply below_drew1) | exact HB.out)⟩⟩
            ·rw [if_neg c24] at H
             have c24b0 : ((Go.bits .and .i64 a0 255) == 44) = false := beq_eq_false_iff_ne.mpr c24
             have c24b1 : ((Go.bits .and .i64 a0 255) != 44) = true := bne_iff_ne.mpr c24
             have H' := Aside0.mk H
             clear H
             go_wp2
             go_meet
             case rel => exact ⟨_, (((Go.bits .and .i64 a0 255) == 45)), (by first | rfl | (simp; done) | (simp [*]; done)), H', ⟨by first | omega | exact Nat.le_refl _⟩, ⟨by repeat (first | (with_reducible first | exact HB.out | apply below_alloc | apply pw_below_drewN | apply below_drew1) | exact HB.out)⟩⟩
     ·rw [if_neg c11] at H
      have c11b0 : decide (65 ≤ (Go.bits .and .i64 a0 255)) = false := decide_eq_false c11
      clear c11
      by_cases c25 : (Go.bits .and .i64 a0 255) ≥ 97
      ·rw [if_pos c25] at H
       have c25b0 : decide (97 ≤ (Go.bits .and .i64 a0 255)) = true := decide_eq_true c25
       clear c25
       by_cases c26 : (Go.bits .and .i64 a0 255) ≤ 122
       ·rw [if_pos c26] at H
        have c26b0 : decide ((Go.bits .and .i64 a0 255) ≤ 122) = true := decide_eq_true c26
        clear c26
        have H' := Aside0.mk H
        clear H
        go_wp2
        go_meet
        case rel => exact ⟨_, (true), (by first | rfl | (simp; done) | (simp [*]; done)), H', ⟨by first | omega | exact Nat.le_refl _⟩, ⟨by repeat (first | (with_reducible first | exact HB.out | apply below_alloc | apply pw_below_drewN | apply below_drew1) | exact HB.out)⟩⟩
       ·rw [if_neg c26] at H
        have c26b0 : decide ((Go.bits .and .i64 a0 255) ≤ 122) = false := decide_eq_false c26
        clear c26
        by_cases c27 : (Go.bits .and .i64 a0 255) = 32
        ·rw [if_pos c27] at H
         have c27b0 : ((Go.bits .and .i64 a0 255) == 32) = true := beq_iff_eq.mpr c27
         have c27b1 : ((Go.bits .and .i64 a0 255) != 32) = false := bne_eq_false_iff_eq.mpr c27
         clear c27
         have H' := Aside0.mk H
         clear H
         go_wp2
         go_meet
         case rel => exact ⟨_, (true), (by first | rfl | (simp; done) | (simp [*]; done)), H', ⟨by first | omega | exact Nat.le_refl _⟩, ⟨by repeat (first | (with_reducible first | exact HB.out | apply below_alloc | apply pw_below_drewN | apply below_drew1) | exact HB.out)⟩⟩
        ·rw [if_neg c27] at H
         have c27b0 : ((Go.bits .and .i64 a0 255) == 32) = false := beq_eq_false_iff_ne.mpr c27
         have c27b1 : ((Go.bits .and .i64 a0 255) != 32) = true := bne_iff_ne.mpr c27
         by_cases c28 : (Go.bits .and .i64 a0 255) = 35
         ·rw [if_pos c28] at H
          have c28b0 : ((Go.bits .and .i64 a0 255) == 35) = true := beq_iff_eq.mpr c28
          have c28b1 : ((Go.bits .and .i64 a0 255) != 35) = false := bne_eq_false_iff_eq.mpr c28
          clear c28
          have H' := Aside0.mk H
          clear H
          go_wp2
          go_meet
          case rel => exact ⟨_, (true), (by first | rfl | (simp; done) | (simp [*]; done)), H', ⟨by first | omega | exact Nat.le_refl _⟩, ⟨by repeat (first | (with_reducible first | exact HB.out | apply below_alloc | apply pw_below_drewN | apply below_drew1) | exact HB.out)⟩⟩
         ·rw [if_neg c28] at H
          have c28b0 : ((Go.bits .and .i64 a0 255) == 35) = false := beq_eq_false_iff_ne.mpr c28
          have c28b1 : ((Go.bits .and .i64 a0 255) != 35) = true := bne_iff_ne.mpr c28
          by_cases c29 : (Go.bits .and .i64 a0 255) = 37
          ·rw [if_pos c29] at H
           have c29b0 : ((Go.bits .and .i64 a0 255) == 37) = true := beq_iff_eq.mpr c29
           have c29b1 : ((Go.bits .and .i64 a0 255) != 37) = false := bne_eq_false_iff_eq.mpr c29
           clear c29
           have H' := Aside0.mk H
           clear H
           go_wp2
           go_meet
           case rel => exact ⟨_, (true), (by first | rfl | (simp; done) | (simp [*]; done)), H', ⟨by first | omega | exact Nat.le_refl _⟩, ⟨by repeat (first | (with_reducible first | exact HB.out | apply below_alloc | apply pw_below_drewN | apply below_drew1) | exact HB.out)⟩⟩
          ·rw [if_neg c29] at H
           have c29b0 : ((Go.bits .and .i64 a0 255) == 37) = false := beq_eq_false_iff_ne.mpr c29
           have c29b1 : ((Go.bits .and .i64 a0 255) != 37) = true := bne_iff_ne.mpr c29
           by_cases c30 : (Go.bits .and .i64 a0 255) = 46
           ·rw [if_pos c30] at H
            have c30b0 : ((Go.bits .and .i64 a0 255) == 46) = true := beq_iff_eq.mpr c30
            have c30b1 : ((Go.bits .and .i64 a0 255) != 46) = false := bne_eq_false_iff_eq.mpr c30
            clear c30
            have H' := Aside0.mk H
            clear H
            go_wp2
            go_meet
            case rel => exact ⟨_, (true), (by first | rfl | (simp; done) | (simp [*]; done)), H', ⟨by first | omega | exact Nat.le_refl _⟩, ⟨by repeat (first | (with_reducible first | exact HB.out | apply below_alloc | apply pw_below_drewN | apply below_drew1) | exact HB.out)⟩⟩
           ·rw [if_neg c30] at H
            have c30b0 : ((Go.bits .and .i64 a0 255) == 46) = false := beq_eq_false_iff_ne.mpr c30
            have c30b1 : ((Go.bits .and .i64 a0 255) != 46) = true := bne_iff_ne.mpr c30
            by_cases c31 : (Go.bits .and .i64 a0 255) = 44
            ·rw [if_pos c31] at H
             have c31b0 : ((Go.bits .and .i64 a0 255) == 44) = true := beq_iff_eq.mpr c31
             have c31b1 : ((Go.bits .and .i64 a0 255) != 44) = false := bne_eq_false_iff_eq.mpr c31
             clear c31
             have H' := Aside0.mk H
             clear H
             go_wp2
             go_meet
             case rel => exact ⟨_, (true), (by first | rfl | (simp; done) | (simp [*]; done)), H', ⟨by first | omega | exact Nat.le_refl _⟩, ⟨by repeat (first | (with_reducible first | exact HB.out | apply below_alloc | apply pw_below_drewN | apply below_drew1) | exact HB.out)⟩⟩
            ·rw [if_neg c31] at H
             have c31b0 : ((Go.bits .and .i64 a0 255) == 44) = false := beq_eq_false_iff_ne.mpr c31
             have c31b1 : ((Go.bits .and .i64 a0 255) != 44) = true := bne_iff_ne.mpr c31
             have H' := Aside0.mk H
             clear H
             go_wp2
             go_meet
             case rel => exact ⟨_, (((Go.bits .and .i64 a0 255) == 45)), (by first | rfl | (simp; done) | (simp [*]; done)), H', ⟨by first | omega | exact Nat.le_refl _⟩, ⟨by repeat (first | (with_reducible first | exact HB.out | apply below_alloc | apply pw_below_drewN | apply below_drew1) | exact HB.out)⟩⟩
      ·rw [if_neg c25] at H
       have c25b0 : decide (97 ≤ (Go.bits .and .i64 a0 255)) = false := decide_eq_false c25
       clear c25
       by_cases c32 : (Go.bits .and .i64 a0 255) = 32
       ·rw [if_pos c32] at H
        have c32b0 : ((Go.bits .and .i64 a0 255) == 32) = true := beq_iff_eq.mpr c32
        have c32b1 : ((Go.bits .and .i64 a0 255) != 32) = false := bne_eq_false_iff_eq.mpr c32
        clear c32
        have H' := Aside0.mk H
        clear H
        go_wp2
        go_meet
        case rel => exact ⟨_, (true), (by first | rfl | (simp; done) | (simp [*]; done)), H', ⟨by first | omega | exact Nat.le_refl _⟩, ⟨by repeat (first | (with_reducible first | exact HB.out | apply below_alloc | apply pw_below_drewN | apply below_drew1) | exact HB.out)⟩⟩
       ·rw [if_neg c32] at H
        have c32b0 : ((Go.bits .and .i64 a0 255) == 32) = false := beq_eq_false_iff_ne.mpr c32
        have c32b1 : ((Go.bits .and .i64 a0 255) != 32) = true := bne_iff_ne.mpr c32
        by_cases c33 : (Go.bits .and .i64 a0 255) = 35
        ·rw [if_pos c33] at H
         have c33b0 : ((Go.bits .and .i64 a0 255) == 35) = true := beq_iff_eq.mpr c33
         have c33b1 : ((Go.bits .and .i64 a0 255) != 35) = false := bne_eq_false_iff_eq.mpr c33
         clear c33
         have H' := Aside0.mk H
         clear H
         go_wp2
         go_meet
         case rel => exact ⟨_, (true), (by first | rfl | (simp; done) | (simp [*]; done)), H', ⟨by first | omega | exact Nat.le_refl _⟩, ⟨by repeat (first | (with_reducible first | exact HB.out | apply below_alloc | apply pw_below_drewN | apply below_drew1) | exact HB.out)⟩⟩
        ·rw [if_neg c33] at H
         have c33b0 : ((Go.bits .and .i64 a0 255) == 35) = false := beq_eq_false_iff_ne.mpr c33
         have c33b1 : ((Go.bits .and .i64 a0 255) != 35) = true := bne_iff_ne.mpr c33
         by_cases c34 : (Go.bits .and .i64 a0 255) = 37
         ·rw [if_pos c34] at H
          have c34b0 : ((Go.bits .and .i64 a0 255) == 37) = true := beq_iff_eq.mpr c34
          have c34b1 : ((Go.bits .and .i64 a0 255) != 37) = false := bne_eq_false_iff_eq.mpr c34
          clear c34
          have H' := Aside0.mk H
          clear H
          go_wp2
          go_meet
          case rel => exact ⟨_, (true), (by first | rfl | (simp; done) | (simp [*]; done)), H', ⟨by first | omega | exact Nat.le_refl _⟩, ⟨by repeat (first | (with_reducible first | exact HB.out | apply below_alloc | apply pw_below_drewN | apply below_drew1) | exact HB.out)⟩⟩
         ·rw [if_neg c34] at H
          have c34b0 : ((Go.bits .and .i64 a0 255) == 37) = false := beq_eq_false_iff_ne.mpr c34
          have c34b1 : ((Go.bits .and .i64 a0 255) != 37) = true := bne_iff_ne.mpr c34
          by_cases c35 : (Go.bits .and .i64 a0 255) = 46
          ·rw [if_pos c35] at H
           have c35b0 : ((Go.bits .and .i64 a0 255) == 46) = true := beq_iff_eq.mpr c35
           have c35b1 : ((Go.bits .and .i64 a0 255) != 46) = false := bne_eq_false_iff_eq.mpr c35
           clear c35
           have H' := Aside0.mk H
           clear H
           go_wp2
           go_meet
           case rel => exact ⟨_, (true), (by first | rfl | (simp; done) | (simp [*]; done)), H', ⟨by first | omega | exact Nat.le_refl _⟩, ⟨by repeat (first | (with_reducible first | exact HB.out | apply below_alloc | apply pw_below_drewN | apply below_drew1) | exact HB.out)⟩⟩
          ·rw [if_neg c35] at H
           have c35b0 : ((Go.bits .and .i64 a0 255) == 46) = false := beq_eq_false_iff_ne.mpr c35
           have c35b1 : ((Go.bits .and .i64 a0 255) != 46) = true := bne_iff_ne.mpr c35
           by_cases c36 : (Go.bits .and .i64 a0 255) = 44
           ·rw [if_pos c36] at H
            have c36b0 : ((Go.bits .and .i64 a0 255) == 44) = true := beq_iff_eq.mpr c36
            have c36b1 : ((Go.bits .and .i64 a0 255) != 44) = false := bne_eq_false_iff_eq.mpr c36
            clear c36
            have H' := Aside0.mk H
            clear H
            go_wp2
            go_meet
            case rel => exact ⟨_, (true), (by first | rfl | (simp; done) | (simp [*]; done)), H', ⟨by first | omega | exact Nat.le_refl _⟩, ⟨by repeat (first | (with_reducible first | exact HB.out | apply below_alloc | apply pw_below_drewN | apply below_drew1) | exact HB.out)⟩⟩
           ·rw [if_neg c36] at H
            have c36b0 : ((Go.bits .and .i64 a0 255) == 44) = false := beq_eq_false_iff_ne.mpr c36
            have c36b1 : ((Go.bits .and .i64 a0 255) != 44) = true := bne_iff_ne.mpr c36
            have H' := Aside0.mk H
            clear H
            go_wp2
            go_meet
            case rel => exact ⟨_, (((Go.bits .and .i64 a0 255) == 45)), (by first | rfl | (simp; done) | (simp [*]; done)), H', ⟨by first | omega | exact Nat.le_refl _⟩, ⟨by repeat (first | (with_reducible first | exact HB.out | apply below_alloc | apply pw_below_drewN | apply below_drew1) | exact HB.out)⟩⟩
   ·rw [if_neg c9] at H
    have c9b0 : decide (48 ≤ (Go.bits .and .i64 a0 255)) = false := decide_eq_false c9
    clear c9
    (first | rw [c9b0] | (simp only [i64_w, i32_w]; rw [c9b0]) | skip)
    by_cases c37 : (Go.bits .and .i64 a0 255) ≥ 65
    ·rw [if_pos c37] at H
     have c37b0 : decide (65 ≤ (Go.bits .and .i64 a0 255)) = true := decide_eq_true c37
     clear c37
     by_cases c38 : (Go.bits .and .i64 a0 255) ≤ 90
     ·rw [if_pos c38] at H
      have c38b0 : decide ((Go.bits .and .i64 a0 255) ≤ 90) = true := decide_eq_true c38
      clear c38
      have H' := Aside0.mk H
      clear H
      go_wp2
      go_meet
      case rel => exact ⟨_, (true), (by first | rfl | (simp; done) | (simp [*]; done)), H', ⟨by first | omega | exact Nat.le_refl _⟩, ⟨by repeat (first | (with_reducible first | exact HB.out | apply below_alloc | apply pw_below_drewN | apply below_drew1) | exact HB.out)⟩⟩
     ·rw [if_neg c38] at H
      have c38b0 : decide ((Go.bits .and .i64 a0 255) ≤ 90) = false := decide_eq_false c38
      clear c38
      by_cases c39 : (Go.bits .and .i64 a0 255) ≥ 97
      ·rw [if_pos c39] at H
       have c39b0 : decide (97 ≤ (Go.bits .and .i64 a0 255)) = true := decide_eq_true c39
       clear c39
       by_cases c40 : (Go.bits .and .i64 a0 255) ≤ 122
       ·rw [if_pos c40] at H
        have c40b0 : decide ((Go.bits .and .i64 a0 255) ≤ 122) = true := decide_eq_true c40
        clear c40
        have H' := Aside0.mk H
        clear H
        go_wp2
        go_meet
        case rel => exact ⟨_, (true), (by first | rfl | (simp; done) | (simp [*]; done)), H', ⟨by first | omega | exact Nat.le_refl _⟩, ⟨by repeat (first | (with_reducible first | exact HB.out | apply below_alloc | apply pw_below_drewN | apply below_drew1) | exact HB.out)⟩⟩
       ·rw [if_neg c40] at H
        have c40b0 : decide ((Go.bits .and .i64 a0 255) ≤ 122) = false := decide_eq_false c40
        clear c40
        by_cases c41 : (Go.bits .and .i64 a0 255) = 32
        ·rw [if_pos c41] at H
         have c41b0 : ((Go.bits .and .i64 a0 255) == 32) = true := beq_iff_eq.mpr c41
         have c41b1 : ((Go.bits .and .i64 a0 255) != 32) = false := bne_eq_false_iff_eq.mpr c41
         clear c41
         have H' := Aside0.mk H
         clear H
         go_wp2
         go_meet
         case rel => exact ⟨_, (true), (by first | rfl | (simp; done) | (simp [*]; done)), H', ⟨by first | omega | exact Nat.le_refl _⟩, ⟨by repeat (first | (with_reducible first | exact HB.out | apply below_alloc | apply pw_below_drewN | apply below_drew1) | exact HB.out)⟩⟩
        ·rw [if_neg c41] at H
         have c41b0 : ((Go.bits .and .i64 a0 255) == 32) = false := beq_eq_false_iff_ne.mpr c41
         have c41b1 : ((Go.bits .and .i64 a0 255) != 32) = true := bne_iff_ne.mpr c41
         by_cases c42 : (Go.bits .and .i64 a0 255) = 35
         ·rw [if_pos c42] at H
          have c42b0 : ((Go.bits .and .i64 a0 255) == 35) = true := beq_iff_eq.mpr c42
          have c42b1 : ((Go.bits .and .i64 a0 255) != 35) = false := bne_eq_false_iff_eq.mpr c42
          clear c42
          have H' := Aside0.mk H
          clear H
          go_wp2
          go_meet
          case rel => exact ⟨_, (true), (by first | rfl | (simp; done) | (simp [*]; done)), H', ⟨by first | omega | exact Nat.le_refl _⟩, ⟨by repeat (first | (with_reducible first | exact HB.out | apply below_alloc | apply pw_below_drewN | apply below_drew1) | exact HB.out)⟩⟩
         ·rw [if_neg c42] at H
          have c42b0 : ((Go.bits .and .i64 a0 255) == 35) = false := beq_eq_false_iff_ne.mpr c42
          have c42b1 : ((Go.bits .and .i64 a0 255) != 35) = true := bne_iff_ne.mpr c42
          by_cases c43 : (Go.bits .and .i64 a0 255) = 37
          ·rw [if_pos c43] at H
           have c43b0 : ((Go.bits .and .i64 a0 255) == 37) = true := beq_iff_eq.mpr c43
           have c43b1 : ((Go.bits .and .i64 a0 255) != 37) = false := bne_eq_false_iff_eq.mpr c43
           clear c43
           have H' := Aside0.mk H
           clear H
           go_wp2
           go_meet
           case rel => exact ⟨_, (true), (by first | rfl | (simp; done) | (simp [*]; done)), H', ⟨by first | omega | exact Nat.le_refl _⟩, ⟨by repeat (first | (with_reducible first | exact HB.out | apply below_alloc | apply pw_below_drewN | apply below_drew1) | exact HB.out)⟩⟩
          ·rw [if_neg c43] at H
           have c43b0 : ((Go.bits .and .i64 a0 255) == 37) = false := beq_eq_false_iff_ne.mpr c43
           have c43b1 : ((Go.bits .and .i64 a0 255) != 37) = true := bne_iff_ne.mpr c43
           by_cases c44 : (Go.bits .and .i64 a0 255) = 46
           ·rw [if_pos c44] at H
            have c44b0 : ((Go.bits .and .i64 a0 255) == 46) = true := beq_iff_eq.mpr c44
            have c44b1 : ((Go.bits .and .i64 a0 255) != 46) = false := bne_eq_false_iff_eq.mpr c44
            clear c44
            have H' := Aside0.mk H
            clear H
            go_wp2
            go_meet
            case rel => exact ⟨_, (true), (by first | rfl | (simp; done) | (simp [*]; done)), H', ⟨by first | omega | exact Nat.le_refl _⟩, ⟨by repeat (first | (with_reducible first | exact HB.out | apply below_alloc | apply pw_below_drewN | apply below_drew1) | exact HB.out)⟩⟩
           ·rw [if_neg c44] at H
            have c44b0 : ((Go.bits .and .i64 a0 255) == 46) = false := beq_eq_false_iff_ne.mpr c44
            have c44b1 : ((Go.bits .and .i64 a0 255) != 46) = true := bne_iff_ne.mpr c44
            by_cases c45 : (Go.bits .and .i64 a0 255) = 44
            ·rw [if_pos c45] at H
             have c45b0 : ((Go.bits .and .i64 a0 255) == 44) = true := beq_iff_eq.mpr c45
             have c45b1 : ((Go.bits .and .i64 a0 255) != 44) = false := bne_eq_false_iff_eq.mpr c45
             clear c45
             have H' := Aside0.mk H
             clear H
             go_wp2
             go_meet
             case rel => exact ⟨_, (true), (by first | rfl | (simp; done) | (simp [*]; done)), H', ⟨by first | omega | exact Nat.le_refl _⟩, ⟨by repeat (first | (with_reducible first | exact HB.out | apply below_alloc | apply pw_below_drewN | apply below_drew1) | exact HB.out)⟩⟩
            ·rw [if_neg c45] at H
             have c45b0 : ((Go.bits .and .i64 a0 255) == 44) = false := beq_eq_false_iff_ne.mpr c45
             have c45b1 : ((Go.bits .and .i64 a0 255) != 44) = true := bne_iff_ne.mpr c45
             have H' := Aside0.mk H
             clear H
             go_wp2
             go_meet
             case rel => exact ⟨_, (((Go.bits .and .i64 a0 255) == 45)), (by first | rfl | (simp; done) | (simp [*]; done)), H', ⟨by first | omega | exact Nat.le_refl _⟩, ⟨by repeat (first | (with_reducible first | exact HB.out | apply below_alloc | apply pw_below_drewN | apply below_drew1) | exact HB.out)⟩⟩
      ·rw [if_neg c39] at H
       have c39b0 : decide (97 ≤ (Go.bits .and .i64 a0 255)) = false := decide_eq_false c39
       clear c39
       by_cases c46 : (Go.bits .and .i64 a0 255) = 32
       ·rw [if_pos c46] at H
        have c46b0 : ((Go.bits .and .i64 a0 255) == 32) = true := beq_iff_eq.mpr c46
        have c46b1 : ((Go.bits .and .i64 a0 255) != 32) = false := bne_eq_false_iff_eq.mpr c46
        clear c46
        have H' := Aside0.mk H
        clear H
        go_wp2
        go_meet
        case rel => exact ⟨_, (true), (by first | rfl | (simp; done) | (simp [*]; done)), H', ⟨by first | omega | exact Nat.le_refl _⟩, ⟨by repeat (first | (with_reducible first | exact HB.out | apply below_alloc | apply pw_below_drewN | apply below_drew1) | exact HB.out)⟩⟩
       ·rw [if_neg c46] at H
        have c46b0 : ((Go.bits .and .i64 a0 255) == 32) = false := beq_eq_false_iff_ne.mpr c46
        have c46b1 : ((Go.bits .and .i64 a0 255) != 32) = true := bne_iff_ne.mpr c46
        by_cases c47 : (Go.bits .and .i64 a0 255) = 35
        ·rw [if_pos c47] at H
         have c47b0 : ((Go.bits .and .i64 a0 255) == 35) = true := beq_iff_eq.mpr c47
         have c47b1 : ((Go.bits .and .i64 a0 255) != 35) = false := bne_eq_false_iff_eq.mpr c47
         clear c47
         have H' := Aside0.mk H
         clear H
         go_wp2
         go_meet
         case rel => exact ⟨_, (true), (by first | rfl | (simp; done) | (simp [*]; done)), H', ⟨by first | omega | exact Nat.le_refl _⟩, ⟨by repeat (first | (with_reducible first | exact HB.out | apply below_alloc | apply pw_below_drewN | apply below_drew1) | exact HB.out)⟩⟩
        ·rw [if_neg c47] at H
         have c47b0 : ((Go.bits .and .i64 a0 255) == 35) = false := beq_eq_false_iff_ne.mpr c47
         have c47b1 : ((Go.bits .and .i64 a0 255) != 35) = true := bne_iff_ne.mpr c47
         by_cases c48 : (Go.bits .and .i64 a0 255) = 37
         ·rw [if_pos c48] at H
          have c48b0 : ((Go.bits .and .i64 a0 255) == 37) = true := beq_iff_eq.mpr c48
          have c48b1 : ((Go.bits .and .i64 a0 255) != 37) = false := bne_eq_false_iff_eq.mpr c48
          clear c48
          have H' := Aside0.mk H
          clear H
          go_wp2
          go_meet
          case rel => exact ⟨_, (true), (by first | rfl | (simp; done) | (simp [*]; done)), H', ⟨by first | omega | exact Nat.le_refl _⟩, ⟨by repeat (first | (with_reducible first | exact HB.out | apply below_alloc | apply pw_below_drewN | apply below_drew1) | exact HB.out)⟩⟩
         ·rw [if_neg c48] at H
          have c48b0 : ((Go.bits .and .i64 a0 255) == 37) = false := beq_eq_false_iff_ne.mpr c48
          have c48b1 : ((Go.bits .and .i64 a0 255) != 37) = true := bne_iff_ne.mpr c48
          by_cases c49 : (Go.bits .and .i64 a0 255) = 46
          ·rw [if_pos c49] at H
           have c49b0 : ((Go.bits .and .i64 a0 255) == 46) = true := beq_iff_eq.mpr c49
           have c49b1 : ((Go.bits .and .i64 a0 255) != 46) = false := bne_eq_false_iff_eq.mpr c49
           clear c49
           have H' := Aside0.mk H
           clear H
           go_wp2
           go_meet
           case rel => exact ⟨_, (true), (by first | rfl | (simp; done) | (simp [*]; done)), H', ⟨by first | omega | exact Nat.le_refl _⟩, ⟨by repeat (first | (with_reducible first | exact HB.out | apply below_alloc | apply pw_below_drewN | apply below_drew1) | exact HB.out)⟩⟩
          ·rw [if_neg c49] at H
           have c49b0 : ((Go.bits .and .i64 a0 255) == 46) = false := beq_eq_false_iff_ne.mpr c49
           have c49b1 : ((Go.bits .and .i64 a0 255) != 46) = true := bne_iff_ne.mpr c49
           by_cases c50 : (Go.bits .and .i64 a0 255) = 44
           ·rw [if_pos c50] at H
            have c50b0 : ((Go.bits .and .i64 a0 255) == 44) = true := beq_iff_eq.mpr c50
            have c50b1 : ((Go.bits .and .i64 a0 255) != 44) = false := bne_eq_false_iff_eq.mpr c50
            clear c50
            have H' := Aside0.mk H
            clear H
            go_wp2
            go_meet
            case rel => exact ⟨_, (true), (by first | rfl | (simp; done) | (simp [*]; done)), H', ⟨by first | omega | exact Nat.le_refl _⟩, ⟨by repeat (first | (with_reducible first | exact HB.out | apply below_alloc | apply pw_below_drewN | apply below_drew1) | exact HB.out)⟩⟩
           ·rw [if_neg c50] at H
            have c50b0 : ((Go.bits .and .i64 a0 255) == 44) = false := beq_eq_false_iff_ne.mpr c50
            have c50b1 : ((Go.bits .and .i64 a0 255) != 44) = true := bne_iff_ne.mpr c50
            have H' := Aside0.mk H
            clear H
            go_wp2
            go_meet
            case rel => exact ⟨_, (((Go.bits .and .i64 a0 255) == 45)), (by first | rfl | (simp; done) | (simp [*]; done)), H', ⟨by first | omega | exact Nat.le_refl _⟩, ⟨by repeat (first | (with_reducible first | exact HB.out | apply below_alloc | apply pw_below_drewN | apply below_drew1) | exact HB.out)⟩⟩
    ·rw [if_neg c37] at H
     have c37b0 : decide (65 ≤ (Go.bits .and .i64 a0 255)) = false := decide_eq_false c37
     clear c37
     by_cases c51 : (Go.bits .and .i64 a0 255) ≥ 97
     ·rw [if_pos c51] at H
      have c51b0 : decide (97 ≤ (Go.bits .and .i64 a0 255)) = true := decide_eq_true c51
      clear c51
      by_cases c52 : (Go.bits .and .i64 a0 255) ≤ 122
      ·rw [if_pos c52] at H
       have c52b0 : decide ((Go.bits .and .i64 a0 255) ≤ 122) = true := decide_eq_true c52
       clear c52
       have H' := Aside0.mk H
       clear H
       go_wp2
       go_meet
       case rel => exact ⟨_, (true), (by first | rfl | (simp; done) | (simp [*]; done)), H', ⟨by first | omega | exact Nat.le_refl _⟩, ⟨by repeat (first | (with_reducible first | exact HB.out | apply below_alloc | apply pw_below_drewN | apply below_drew1) | exact HB.out)⟩⟩
      ·rw [if_neg c52] at H
       have c52b0 : decide ((Go.bits .and .i64 a0 255) ≤ 122) = false := decide_eq_false c52
       clear c52
       by_cases c53 : (Go.bits .and .i64 a0 255) = 32
       ·rw [if_pos c53] at H
        have c53b0 : ((Go.bits .and .i64 a0 255) == 32) = true := beq_iff_eq.mpr c53
        have c53b1 : ((Go.bits .and .i64 a0 255) != 32) = false := bne_eq_false_iff_eq.mpr c53
        clear c53
        have H' := Aside0.mk H
        clear H
        go_wp2
        go_meet
        case rel => exact ⟨_, (true), (by first | rfl | (simp; done) | (simp [*]; done)), H', ⟨by first | omega | exact Nat.le_refl _⟩, ⟨by repeat (first | (with_reducible first | exact HB.out | apply below_alloc | apply pw_below_drewN | apply below_drew1) | exact HB.out)⟩⟩
       ·rw [if_neg c53] at H
        have c53b0 : ((Go.bits .and .i64 a0 255) == 32) = false := beq_eq_false_iff_ne.mpr c53
        have c53b1 : ((Go.bits .and .i64 a0 255) != 32) = true := bne_iff_ne.mpr c53
        by_cases c54 : (Go.bits .and .i64 a0 255) = 35
        ·rw [if_pos c54] at H
         have c54b0 : ((Go.bits .and .i64 a0 255) == 35) = true := beq_iff_eq.mpr c54
         have c54b1 : ((Go.bits .and .i64 a0 255) != 35) = false := bne_eq_false_iff_eq.mpr c54
         clear c54
         have H' := Aside0.mk H
         clear H
         go_wp2
         go_meet
         case rel => exact ⟨_, (true), (by first | rfl | (simp; done) | (simp [*]; done)), H', ⟨by first | omega | exact Nat.le_refl _⟩, ⟨by repeat (first | (with_reducible first | exact HB.out | apply below_alloc | apply pw_below_drewN | apply below_drew1) | exact HB.out)⟩⟩
        ·rw [if_neg c54] at H
         have c54b0 : ((Go.bits .and .i64 a0 255) == 35) = false := beq_eq_false_iff_ne.mpr c54
         have c54b1 : ((Go.bits .and .i64 a0 255) != 35) = true := bne_iff_ne.mpr c54
         by_cases c55 : (Go.bits .and .i64 a0 255) = 37
         ·rw [if_pos c55] at H
          have c55b0 : ((Go.bits .and .i64 a0 255) == 37) = true := beq_iff_eq.mpr c55
          have c55b1 : ((Go.bits .and .i64 a0 255) != 37) = false := bne_eq_false_iff_eq.mpr c55
          clear c55
          have H' := Aside0.mk H
          clear H
          go_wp2
          go_meet
          case rel => exact ⟨_, (true), (by first | rfl | (simp; done) | (simp [*]; done)), H', ⟨by first | omega | exact Nat.le_refl _⟩, ⟨by repeat (first | (with_reducible first | exact HB.out | apply below_alloc | apply pw_below_drewN | apply below_drew1) | exact HB.out)⟩⟩
         ·rw [if_neg c55] at H
          have c55b0 : ((Go.bits .and .i64 a0 255) == 37) = false := beq_eq_false_iff_ne.mpr c55
          have c55b1 : ((Go.bits .and .i64 a0 255) != 37) = true := bne_iff_ne.mpr c55
          by_cases c56 : (Go.bits .and .i64 a0 255) = 46
          ·rw [if_pos c56] at H
           have c56b0 : ((Go.bits .and .i64 a0 255) == 46) = true := beq_iff_eq.mpr c56
           have c56b1 : ((Go.bits .and .i64 a0 255) != 46) = false := bne_eq_false_iff_eq.mpr c56
           clear c56
           have H' := Aside0.mk H
           clear H
           go_wp2
           go_meet
           case rel => exact ⟨_, (true), (by first | rfl | (simp; done) | (simp [*]; done)), H', ⟨by first | omega | exact Nat.le_refl _⟩, ⟨by repeat (first | (with_reducible first | exact HB.out | apply below_alloc | apply pw_below_drewN | apply below_drew1) | exact HB.out)⟩⟩
          ·rw [if_neg c56] at H
           have c56b0 : ((Go.bits .and .i64 a0 255) == 46) = false := beq_eq_false_iff_ne.mpr c56
           have c56b1 : ((Go.bits .and .i64 a0 255) != 46) = true := bne_iff_ne.mpr c56
           by_cases c57 : (Go.bits .and .i64 a0 255) = 44
           ·rw [if_pos c57] at H
            have c57b0 : ((Go.bits .and .i64 a0 255) == 44) = true := beq_iff_eq.mpr c57
            have c57b1 : ((Go.bits .and .i64 a0 255) != 44) = false := bne_eq_false_iff_eq.mpr c57
            clear c57
            have H' := Aside0.mk H
            clear H
            go_wp2
            go_meet
            case rel => exact ⟨_, (true), (by first | rfl | (simp; done) | (simp [*]; done)), H', ⟨by first | omega | exact Nat.le_refl _⟩, ⟨by repeat (first | (with_reducible first | exact HB.out | apply below_alloc | apply pw_below_drewN | apply below_drew1) | exact HB.out)⟩⟩
           ·rw [if_neg c57] at H
            have c57b0 : ((Go.bits .and .i64 a0 255) == 44) = false := beq_eq_false_iff_ne.mpr c57
            have c57b1 : ((Go.bits .and .i64 a0 255) != 44) = true := bne_iff_ne.mpr c57
            have H' := Aside0.mk H
            clear H
            go_wp2
            go_meet
            case rel => exact ⟨_, (((Go.bits .and .i64 a0 255) == 45)), (by first | rfl | (simp; done) | (simp [*]; done)), H', ⟨by first | omega | exact Nat.le_refl _⟩, ⟨by repeat (first | (with_reducible first | exact HB.out | apply below_alloc | apply pw_below_drewN | apply below_drew1) | exact HB.out)⟩⟩
     ·rw [if_neg c51] at H
      have c51b0 : decide (97 ≤ (Go.bits .and .i64 a0 255)) = false := decide_eq_false c51
      clear c51
      by_cases c58 : (Go.bits .and .i64 a0 255) = 32
      ·rw [if_pos c58] at H
       have c58b0 : ((Go.bits .and .i64 a0 255) == 32) = true := beq_iff_eq.mpr c58
       have c58b1 : ((Go.bits .and .i64 a0 255) != 32) = false := bne_eq_false_iff_eq.mpr c58
       clear c58
       have H' := Aside0.mk H
       clear H
       go_wp2
       go_meet
       case rel => exact ⟨_, (true), (by first | rfl | (simp; done) | (simp [*]; done)), H', ⟨by first | omega | exact Nat.le_refl _⟩, ⟨by repeat (first | (with_reducible first | exact HB.out | apply below_alloc | apply pw_below_drewN | apply below_drew1) | exact HB.out)⟩⟩
      ·rw [if_neg c58] at H
       have c58b0 : ((Go.bits .and .i64 a0 255) == 32) = false := beq_eq_false_iff_ne.mpr c58
       have c58b1 : ((Go.bits .and .i64 a0 255) != 32) = true := bne_iff_ne.mpr c58
       by_cases c59 : (Go.bits .and .i64 a0 255) = 35
       ·rw [if_pos c59] at H
        have c59b0 : ((Go.bits .and .i64 a0 255) == 35) = true := beq_iff_eq.mpr c59
        have c59b1 : ((Go.bits .and .i64 a0 255) != 35) = false := bne_eq_false_iff_eq.mpr c59
        clear c59
        have H' := Aside0.mk H
        clear H
        go_wp2
        go_meet
        case rel => exact ⟨_, (true), (by first | rfl | (simp; done) | (simp [*]; done)), H', ⟨by first | omega | exact Nat.le_refl _⟩, ⟨by repeat (first | (with_reducible first | exact HB.out | apply below_alloc | apply pw_below_drewN | apply below_drew1) | exact HB.out)⟩⟩
       ·rw [if_neg c59] at H
        have c59b0 : ((Go.bits .and .i64 a0 255) == 35) = false := beq_eq_false_iff_ne.mpr c59
        have c59b1 : ((Go.bits .and .i64 a0 255) != 35) = true := bne_iff_ne.mpr c59
        by_cases c60 : (Go.bits .and .i64 a0 255) = 37
        ·rw [if_pos c60] at H
         have c60b0 : ((Go.bits .and .i64 a0 255) == 37) = true := beq_iff_eq.mpr c60
         have c60b1 : ((Go.bits .and .i64 a0 255) != 37) = false := bne_eq_false_iff_eq.mpr c60
         clear c60
         have H' := Aside0.mk H
         clear H
         go_wp2
         go_meet
         case rel => exact ⟨_, (true), (by first | rfl | (simp; done) | (simp [*]; done)), H', ⟨by first | omega | exact Nat.le_refl _⟩, ⟨by repeat (first | (with_reducible first | exact HB.out | apply below_alloc | apply pw_below_drewN | apply below_drew1) | exact HB.out)⟩⟩
        ·rw [if_neg c60] at H
         have c60b0 : ((Go.bits .and .i64 a0 255) == 37) = false := beq_eq_false_iff_ne.mpr c60
         have c60b1 : ((Go.bits .and .i64 a0 255) != 37) = true := bne_iff_ne.mpr c60
         by_cases c61 : (Go.bits .and .i64 a0 255) = 46
         ·rw [if_pos c61] at H
          have c61b0 : ((Go.bits .and .i64 a0 255) == 46) = true := beq_iff_eq.mpr c61
          have c61b1 : ((Go.bits .and .i64 a0 255) != 46) = false := bne_eq_false_iff_eq.mpr c61
          clear c61
          have H' := Aside0.mk H
          clear H
          go_wp2
          go_meet
          case rel => exact ⟨_, (true), (by first | rfl | (simp; done) | (simp [*]; done)), H', ⟨by first | omega | exact Nat.le_refl _⟩, ⟨by repeat (first | (with_reducible first | exact HB.out | apply below_alloc | apply pw_below_drewN | apply below_drew1) | exact HB.out)⟩⟩
         ·rw [if_neg c61] at H
          have c61b0 : ((Go.bits .and .i64 a0 255) == 46) = false := beq_eq_false_iff_ne.mpr c61
          have c61b1 : ((Go.bits .and .i64 a0 255) != 46) = true := bne_iff_ne.mpr c61
          by_cases c62 : (Go.bits .and .i64 a0 255) = 44
          ·rw [if_pos c62] at H
           have c62b0 : ((Go.bits .and .i64 a0 255) == 44) = true := beq_iff_eq.mpr c62
           have c62b1 : ((Go.bits .and .i64 a0 255) != 44) = false := bne_eq_false_iff_eq.mpr c62
           clear c62
           have H' := Aside0.mk H
           clear H
           go_wp2
           go_meet
           case rel => exact ⟨_, (true), (by first | rfl | (simp; done) | (simp [*]; done)), H', ⟨by first | omega | exact Nat.le_refl _⟩, ⟨by repeat (first | (with_reducible first | exact HB.out | apply below_alloc | apply pw_below_drewN | apply below_drew1) | exact HB.out)⟩⟩
          ·rw [if_neg c62] at H
           have c62b0 : ((Go.bits .and .i64 a0 255) == 44) = false := beq_eq_false_iff_ne.mpr c62
           have c62b1 : ((Go.bits .and .i64 a0 255) != 44) = true := bne_iff_ne.mpr c62
           have H' := Aside0.mk H
           clear H
           go_wp2
           go_meet
           case rel => exact ⟨_, (((Go.bits .and .i64 a0 255) == 45)), (by first | rfl | (simp; done) | (simp [*]; done)), H', ⟨by first | omega | exact Nat.le_refl _⟩, ⟨by repeat (first | (with_reducible first | exact HB.out | apply below_alloc | apply pw_below_drewN | apply below_drew1) | exact HB.out)⟩⟩
  case rest =>
   clear HC5
   try clear c1
   try clear c2
   try clear p2
   try clear c3
   try clear c4
   try clear c5
   try clear c6
   try clear c9
   try clear c9b0
   try clear c11
   try clear c11b0
   try clear c13
   try clear c13b0
   try clear c18
   try clear c18b0
   try clear c18b1
   try clear c19
   try clear c19b0
   try clear c19b1
   try clear c20
   try clear c20b0
   try clear c20b1
   try clear c21
   try clear c21b0
   try clear c21b1
   try clear c22
   try clear c22b0
   try clear c22b1
   try clear c23
   try clear c23b0
   try clear c23b1
   try clear c24
   try clear c24b0
   try clear c24b1
   try clear c25
   try clear c25b0
   try clear c26
   try clear c26b0
   try clear c27
   try clear c27b0
   try clear c27b1
   try clear c28
   try clear c28b0
   try clear c28b1
   try clear c29
   try clear c29b0
   try clear c29b1
   try clear c30
   try clear c30b0
   try clear c30b1
   try clear c31
   try clear c31b0
   try clear c31b1
   try clear c32
   try clear c32b0
   try clear c32b1
   try clear c33
   try clear c33b0
   try clear c33b1
   try clear c34
   try clear c34b0
   try clear c34b1
   try clear c35
   try clear c35b0
   try clear c35b1
   try clear c36
   try clear c36b0
   try clear c36b1
   try clear c37
   try clear c37b0
   try clear c38
   try clear c38b0
   try clear c39
   try clear c39b0
   try clear c40
   try clear c40b0
   try clear c41
   try clear c41b0
   try clear c41b1
   try clear c42
   try clear c42b0
   try clear c42b1
   try clear c43
   try clear c43b0
   try clear c43b1
   try clear c44
   try clear c44b0
   try clear c44b1
   try clear c45
   try clear c45b0
   try clear c45b1
   try clear c46
   try clear c46b0
   try clear c46b1
   try clear c47
   try clear c47b0
   try clear c47b1
   try clear c48
   try clear c48b0
   try clear c48b1
   try clear c49
   try clear c49b0
   try clear c49b1
   try clear c50
   try clear c50b0
   try clear c50b1
   try clear c51
   try clear c51b0
   try clear c52
   try clear c52b0
   try clear c53
   try clear c53b0
   try clear c53b1
   try clear c54
   try clear c54b0
   try clear c54b1
   try clear c55
   try clear c55b0
   try clear c55b1
   try clear c56
   try clear c56b0
   try clear c56b1
   try clear c57
   try clear c57b0
   try clear c57b1
   try clear c58
   try clear c58b0
   try clear c58b1
   try clear c59
   try clear c59b0
   try clear c59b1
   try clear c60
   try clear c60b0
   try clear c60b1
   try clear c61
   try clear c61b0
   try clear c61b1
   try clear c62
   try clear c62b0
   try clear c62b1
   obtain ⟨kq, x7_4, rfl, HA, HJ4, HB⟩ := hcut
   cases kq with
   | zero => exact absurd HA.out (by simp [stolelaw12_FilterBytes.j0])
   | succ kj4 =>
    have H := HA.out
    clear HA
    simp only [stolelaw12_FilterBytes.j0] at H
    by_cases c63 : 1 + (strOfNums y125).size ≤ 9223372036854775807
    ·rw [if_pos c63] at H
     have c63b0 := eq_true c63
     have c63b1 : decide (1 + (strOfNums y125).size ≤ 9223372036854775807) = true := decide_eq_true c63
     try have c63b2 : (9223372036854775807 < 1 + (strOfNums y125).size) = False := eq_false (Nat.not_lt.2 c63)
     by_cases c64 : 1 + (strOfNums y125).size + 2 ≤ 9223372036854775807
     ·rw [if_pos c64] at H
      have c64b0 := eq_true c64
      have c64b1 : decide (1 + (strOfNums y125).size + 2 ≤ 9223372036854775807) = true := decide_eq_true c64
      try have c64b2 : (9223372036854775807 < 1 + (strOfNums y125).size + 2) = False := eq_false (Nat.not_lt.2 c64)
      replace H := Option.bind_eq_some_iff.mp H
      obtain ⟨t128, A650, H⟩ := H
      replace H : (if a1.size + (strOfNums y125).size ≤ 9223372036854775807 then ((css_Filter.f kj4 (a1 ++ (strOfNums y125))).bind fun t129 => (if x7_4 = true then (if t128.toList = (((⟨#[49]⟩ : ByteArray) ++ (strOfNums y125)) ++ (⟨#[112, 120]⟩ : ByteArray)).toList then (if t129.toList = (a1 ++ (strOfNums y125)).toList then (some true) else (some (t129.toList == ([90, 103, 111, 116, 109, 112, 108, 90] : List UInt8)))) else (some false)) else (if t128.toList = ([90, 103, 111, 116, 109, 112, 108, 90] : List UInt8) then (if t129.toList = t128.toList then ((stolelaw0_Num.f 0).bind fun t130 => (some (t130 == 0))) else (some false)) else (some false)))) else (none)) = some r := H
      have A65 := Aside0.mk A650
      clear A650
      by_cases c66 : a1.size + (strOfNums y125).size ≤ 9223372036854775807
      ·rw [if_pos c66] at H
       have c66b0 := eq_true c66
       have c66b1 : decide (a1.size + (strOfNums y125).size ≤ 9223372036854775807) = true := decide_eq_true c66
       try have c66b2 : (9223372036854775807 < a1.size + (strOfNums y125).size) = False := eq_false (Nat.not_lt.2 c66)
       replace H := Option.bind_eq_some_iff.mp H
       obtain ⟨t129, A670, H⟩ := H
       replace H : (if x7_4 = true then (if t128.toList = (((⟨#[49]⟩ : ByteArray) ++ (strOfNums y125)) ++ (⟨#[112, 120]⟩ : ByteArray)).toList then (if t129.toList = (a1 ++ (strOfNums y125)).toList then (some true) else (some (t129.toList == ([90, 103, 111, 116, 109, 112, 108, 90] : List UInt8)))) else (some false)) else (if t128.toList = ([90, 103, 111, 116, 109, 112, 108, 90] : List UInt8) then (if t129.toList = t128.toList then ((stolelaw0_Num.f 0).bind fun t130 => (some (t130 == 0))) else (some false)) else (some false))) = some r := H
       have A67 := Aside0.mk A670
       clear A670
       by_cases c68 : x7_4 = true
       ·subst c68
        have H1 : (if t128.toList = (((⟨#[49]⟩ : ByteArray) ++ (strOfNums y125)) ++ (⟨#[112, 120]⟩ : ByteArray)).toList then (if t129.toList = (a1 ++ (strOfNums y125)).toList then (some true) else (some (t129.toList == ([90, 103, 111, 116, 109, 112, 108, 90] : List UInt8)))) else (some false)) = some r := by rw [if_pos rfl] at H; exact H
        clear H
        have H := H1
        clear H1
        by_cases c69 : t128.toList = (((⟨#[49]⟩ : ByteArray) ++ (strOfNums y125)) ++ (⟨#[112, 120]⟩ : ByteArray)).toList
        ·rw [if_pos c69] at H
         have c69b0 : (t128.toList == (((⟨#[49]⟩ : ByteArray) ++ (strOfNums y125)) ++ (⟨#[112, 120]⟩ : ByteArray)).toList) = true := beq_iff_eq.mpr c69
         have c69b1 : (t128.toList != (((⟨#[49]⟩ : ByteArray) ++ (strOfNums y125)) ++ (⟨#[112, 120]⟩ : ByteArray)).toList) = false := bne_eq_false_iff_eq.mpr c69
         clear c69
         by_cases c70 : t129.toList = (a1 ++ (strOfNums y125)).toList
         ·rw [if_pos c70] at H
          have c70b0 : (t129.toList == (a1 ++ (strOfNums y125)).toList) = true := beq_iff_eq.mpr c70
          have c70b1 : (t129.toList != (a1 ++ (strOfNums y125)).toList) = false := bne_eq_false_iff_eq.mpr c70
          clear c70
          obtain rfl := Option.some.inj H
          go_wp2_with (first | ((with_reducible refine gate_callee (f := 12) rfl ?_); refine goesL_ (some 67) rfl rfl Try.func12 (by kernel_rfl) rfl #[.string (((⟨#[49]⟩ : ByteArray) ++ (strOfNums y125)) ++ (⟨#[112, 120]⟩ : ByteArray))] rfl (by (try simp only [List.map_toArray, List.map_cons, List.map_nil]); first | done | rfl | (simp only [List.length_drop, List.length_take]; rfl)) ?_; (with_reducible refine (css_Filter.calls kj4 (((⟨#[49]⟩ : ByteArray) ++ (strOfNums y125)) ++ (⟨#[112, 120]⟩ : ByteArray)) t128 _ A65.out).mono ?_); rintro e w' ⟨rfl, ⟨nd, rfl⟩⟩; refine ⟨_, rfl, ?_⟩) | ((with_reducible refine gate_callee (f := 12) rfl ?_); refine goesL_ (some 71) rfl rfl Try.func12 (by kernel_rfl) rfl #[.string (a1 ++ (strOfNums y125))] rfl (by (try simp only [List.map_toArray, List.map_cons, List.map_nil]); first | done | rfl | (simp only [List.length_drop, List.length_take]; rfl)) ?_; (with_reducible refine (css_Filter.calls kj4 (a1 ++ (strOfNums y125)) t129 _ A67.out).mono ?_); rintro e w' ⟨rfl, ⟨nd, rfl⟩⟩; refine ⟨_, rfl, ?_⟩))
          go_ret
          exact ⟨by first | rfl | (simp [errW_none, errW_some] <;> rfl) | (simp [*, errW_none, errW_some] <;> rfl), by repeat (first | (with_reducible first | exact HB.out | apply below_alloc | apply pw_below_drewN | apply below_drew1) | exact HB.out)⟩
         ·rw [if_neg c70] at H
          have c70b0 : (t129.toList == (a1 ++ (strOfNums y125)).toList) = false := beq_eq_false_iff_ne.mpr c70
          have c70b1 : (t129.toList != (a1 ++ (strOfNums y125)).toList) = true := bne_iff_ne.mpr c70
          obtain rfl := Option.some.inj H
          go_wp2_with (first | ((with_reducible refine gate_callee (f := 12) rfl ?_); refine goesL_ (some 67) rfl rfl Try.func12 (by kernel_rfl) rfl #[.string (((⟨#[49]⟩ : ByteArray) ++ (strOfNums y125)) ++ (⟨#[112, 120]⟩ : ByteArray))] rfl (by (try simp only [List.map_toArray, List.map_cons, List.map_nil]); first | done | rfl | (simp only [List.length_drop, List.length_take]; rfl)) ?_; (with_reducible refine (css_Filter.calls kj4 (((⟨#[49]⟩ : ByteArray) ++ (strOfNums y125)) ++ (⟨#[112, 120]⟩ : ByteArray)) t128 _ A65.out).mono ?_); rintro e w' ⟨rfl, ⟨nd, rfl⟩⟩; refine ⟨_, rfl, ?_⟩) | ((with_reducible refine gate_callee (f := 12) rfl ?_); refine goesL_ (some 71) rfl rfl Try.func12 (by kernel_rfl) rfl #[.string (a1 ++ (strOfNums y125))] rfl (by (try simp only [List.map_toArray, List.map_cons, List.map_nil]); first | done | rfl | (simp only [List.length_drop, List.length_take]; rfl)) ?_; (with_reducible refine (css_Filter.calls kj4 (a1 ++ (strOfNums y125)) t129 _ A67.out).mono ?_); rintro e w' ⟨rfl, ⟨nd, rfl⟩⟩; refine ⟨_, rfl, ?_⟩))
          go_ret
          exact ⟨by first | rfl | (simp [errW_none, errW_some] <;> rfl) | (simp [*, errW_none, errW_some] <;> rfl), by repeat (first | (with_reducible first | exact HB.out | apply below_alloc | apply pw_below_drewN | apply below_drew1) | exact HB.out)⟩
        ·rw [if_neg c69] at H
         have c69b0 : (t128.toList == (((⟨#[49]⟩ : ByteArray) ++ (strOfNums y125)) ++ (⟨#[112, 120]⟩ : ByteArray)).toList) = false := beq_eq_false_iff_ne.mpr c69
         have c69b1 : (t128.toList != (((⟨#[49]⟩ : ByteArray) ++ (strOfNums y125)) ++ (⟨#[112, 120]⟩ : ByteArray)).toList) = true := bne_iff_ne.mpr c69
         obtain rfl := Option.some.inj H
         go_wp2_with (first | ((with_reducible refine gate_callee (f := 12) rfl ?_); refine goesL_ (some 67) rfl rfl Try.func12 (by kernel_rfl) rfl #[.string (((⟨#[49]⟩ : ByteArray) ++ (strOfNums y125)) ++ (⟨#[112, 120]⟩ : ByteArray))] rfl (by (try simp only [List.map_toArray, List.map_cons, List.map_nil]); first | done | rfl | (simp only [List.length_drop, List.length_take]; rfl)) ?_; (with_reducible refine (css_Filter.calls kj4 (((⟨#[49]⟩ : ByteArray) ++ (strOfNums y125)) ++ (⟨#[112, 120]⟩ : ByteArray)) t128 _ A65.out).mono ?_); rintro e w' ⟨rfl, ⟨nd, rfl⟩⟩; refine ⟨_, rfl, ?_⟩) | ((with_reducible refine gate_callee (f := 12) rfl ?_); refine goesL_ (some 71) rfl rfl Try.func12 (by kernel_rfl) rfl #[.string (a1 ++ (strOfNums y125))] rfl (by (try simp only [List.map_toArray, List.map_cons, List.map_nil]); first | done | rfl | (simp only [List.length_drop, List.length_take]; rfl)) ?_; (with_reducible refine (css_Filter.calls kj4 (a1 ++ (strOfNums y125)) t129 _ A67.out).mono ?_); rintro e w' ⟨rfl, ⟨nd, rfl⟩⟩; refine ⟨_, rfl, ?_⟩))
         go_ret
         exact ⟨by first | rfl | (simp [errW_none, errW_some] <;> rfl) | (simp [*, errW_none, errW_some] <;> rfl), by repeat (first | (with_reducible first | exact HB.out | apply below_alloc | apply pw_below_drewN | apply below_drew1) | exact HB.out)⟩
       ·replace c68 := Bool.eq_false_iff.mpr c68
        subst c68
        have H1 : (if t128.toList = ([90, 103, 111, 116, 109, 112, 108, 90] : List UInt8) then (if t129.toList = t128.toList then ((stolelaw0_Num.f 0).bind fun t130 => (some (t130 == 0))) else (some false)) else (some false)) = some r := by rw [if_neg (show ¬ (false = true) by decide)] at H; exact H
        clear H
        have H := H1
        clear H1
        by_cases c71 : t128.toList = ([90, 103, 111, 116, 109, 112, 108, 90] : List UInt8)
        ·rw [if_pos c71] at H
         have c71b0 : (t128.toList == ([90, 103, 111, 116, 109, 112, 108, 90] : List UInt8)) = true := beq_iff_eq.mpr c71
         have c71b1 : (t128.toList != ([90, 103, 111, 116, 109, 112, 108, 90] : List UInt8)) = false := bne_eq_false_iff_eq.mpr c71
         clear c71
         by_cases c72 : t129.toList = t128.toList
         ·rw [if_pos c72] at H
          have c72b0 : (t129.toList == t128.toList) = true := beq_iff_eq.mpr c72
          have c72b1 : (t129.toList != t128.toList) = false := bne_eq_false_iff_eq.mpr c72
          clear c72
          replace H := Option.bind_eq_some_iff.mp H
          obtain ⟨t130, A730, H⟩ := H
          replace H : (some (t130 == 0)) = some r := H
          have A73 := Aside0.mk A730
          clear A730
          obtain rfl := Option.some.inj H
          go_wp2_with (first | ((with_reducible refine gate_callee (f := 12) rfl ?_); refine goesL_ (some 67) rfl rfl Try.func12 (by kernel_rfl) rfl #[.string (((⟨#[49]⟩ : ByteArray) ++ (strOfNums y125)) ++ (⟨#[112, 120]⟩ : ByteArray))] rfl (by (try simp only [List.map_toArray, List.map_cons, List.map_nil]); first | done | rfl | (simp only [List.length_drop, List.length_take]; rfl)) ?_; (with_reducible refine (css_Filter.calls kj4 (((⟨#[49]⟩ : ByteArray) ++ (strOfNums y125)) ++ (⟨#[112, 120]⟩ : ByteArray)) t128 _ A65.out).mono ?_); rintro e w' ⟨rfl, ⟨nd, rfl⟩⟩; refine ⟨_, rfl, ?_⟩) | ((with_reducible refine gate_callee (f := 12) rfl ?_); refine goesL_ (some 71) rfl rfl Try.func12 (by kernel_rfl) rfl #[.string (a1 ++ (strOfNums y125))] rfl (by (try simp only [List.map_toArray, List.map_cons, List.map_nil]); first | done | rfl | (simp only [List.length_drop, List.length_take]; rfl)) ?_; (with_reducible refine (css_Filter.calls kj4 (a1 ++ (strOfNums y125)) t129 _ A67.out).mono ?_); rintro e w' ⟨rfl, ⟨nd, rfl⟩⟩; refine ⟨_, rfl, ?_⟩) | (go_at_call 15; (with_reducible refine (stolelaw0_Num.calls 0 t130 _ A73.out).mono ?_); rintro e w' ⟨rfl, ⟨nd, rfl⟩⟩))
          go_ret
          exact ⟨by first | rfl | (simp [errW_none, errW_some] <;> rfl) | (simp [*, errW_none, errW_some] <;> rfl), by repeat (first | (with_reducible first | exact HB.out | apply below_alloc | apply pw_below_drewN | apply below_drew1) | exact HB.out)⟩
         ·rw [if_neg c72] at H
          have c72b0 : (t129.toList == t128.toList) = false := beq_eq_false_iff_ne.mpr c72
          have c72b1 : (t129.toList != t128.toList) = true := bne_iff_ne.mpr c72
          obtain rfl := Option.some.inj H
          go_wp2_with (first | ((with_reducible refine gate_callee (f := 12) rfl ?_); refine goesL_ (some 67) rfl rfl Try.func12 (by kernel_rfl) rfl #[.string (((⟨#[49]⟩ : ByteArray) ++ (strOfNums y125)) ++ (⟨#[112, 120]⟩ : ByteArray))] rfl (by (try simp only [List.map_toArray, List.map_cons, List.map_nil]); first | done | rfl | (simp only [List.length_drop, List.length_take]; rfl)) ?_; (with_reducible refine (css_Filter.calls kj4 (((⟨#[49]⟩ : ByteArray) ++ (strOfNums y125)) ++ (⟨#[112, 120]⟩ : ByteArray)) t128 _ A65.out).mono ?_); rintro e w' ⟨rfl, ⟨nd, rfl⟩⟩; refine ⟨_, rfl, ?_⟩) | ((with_reducible refine gate_callee (f := 12) rfl ?_); refine goesL_ (some 71) rfl rfl Try.func12 (by kernel_rfl) rfl #[.string (a1 ++ (strOfNums y125))] rfl (by (try simp only [List.map_toArray, List.map_cons, List.map_nil]); first | done | rfl | (simp only [List.length_drop, List.length_take]; rfl)) ?_; (with_reducible refine (css_Filter.calls kj4 (a1 ++ (strOfNums y125)) t129 _ A67.out).mono ?_); rintro e w' ⟨rfl, ⟨nd, rfl⟩⟩; refine ⟨_, rfl, ?_⟩))
          go_ret
          exact ⟨by first | rfl | (simp [errW_none, errW_some] <;> rfl) | (simp [*, errW_none, errW_some] <;> rfl), by repeat (first | (with_reducible first | exact HB.out | apply below_alloc | apply pw_below_drewN | apply below_drew1) | exact HB.out)⟩
        ·rw [if_neg c71] at H
         have c71b0 : (t128.toList == ([90, 103, 111, 116, 109, 112, 108, 90] : List UInt8)) = false := beq_eq_false_iff_ne.mpr c71
         have c71b1 : (t128.toList != ([90, 103, 111, 116, 109, 112, 108, 90] : List UInt8)) = true := bne_iff_ne.mpr c71
         obtain rfl := Option.some.inj H
         go_wp2_with (first | ((with_reducible refine gate_callee (f := 12) rfl ?_); refine goesL_ (some 67) rfl rfl Try.func12 (by kernel_rfl) rfl #[.string (((⟨#[49]⟩ : ByteArray) ++ (strOfNums y125)) ++ (⟨#[112, 120]⟩ : ByteArray))] rfl (by (try simp only [List.map_toArray, List.map_cons, List.map_nil]); first | done | rfl | (simp only [List.length_drop, List.length_take]; rfl)) ?_; (with_reducible refine (css_Filter.calls kj4 (((⟨#[49]⟩ : ByteArray) ++ (strOfNums y125)) ++ (⟨#[112, 120]⟩ : ByteArray)) t128 _ A65.out).mono ?_); rintro e w' ⟨rfl, ⟨nd, rfl⟩⟩; refine ⟨_, rfl, ?_⟩) | ((with_reducible refine gate_callee (f := 12) rfl ?_); refine goesL_ (some 71) rfl rfl Try.func12 (by kernel_rfl) rfl #[.string (a1 ++ (strOfNums y125))] rfl (by (try simp only [List.map_toArray, List.map_cons, List.map_nil]); first | done | rfl | (simp only [List.length_drop, List.length_take]; rfl)) ?_; (with_reducible refine (css_Filter.calls kj4 (a1 ++ (strOfNums y125)) t129 _ A67.out).mono ?_); rintro e w' ⟨rfl, ⟨nd, rfl⟩⟩; refine ⟨_, rfl, ?_⟩))
         go_ret
         exact ⟨by first | rfl | (simp [errW_none, errW_some] <;> rfl) | (simp [*, errW_none, errW_some] <;> rfl), by repeat (first | (with_reducible first | exact HB.out | apply below_alloc | apply pw_below_drewN | apply below_drew1) | exact HB.out)⟩
      ·rw [if_neg c66] at H
       exact absurd H (by simp)
     ·rw [if_neg c64] at H
      exact absurd H (by simp)
    ·rw [if_neg c63] at H
     exact absurd H (by simp)
 ·replace c4 := Bool.eq_false_iff.mpr c4
  subst c4
  have H1 : (some false) = some r := by rw [if_neg (show ¬ (false = true) by decide)] at H; exact H
  clear H
  have H := H1
  clear H1
  obtain rfl := Option.some.inj H
  go_enter Try.func4, Try.ntmps4
  go_wp2_with (first | ((with_reducible refine gate_callee (f := 14) rfl ?_); refine goesL_ (some 10) rfl rfl Try.func14 (by kernel_rfl) rfl #[] rfl (by (try simp only [List.map_toArray, List.map_cons, List.map_nil]); first | done | rfl | (simp only [List.length_drop, List.length_take]; rfl)) ?_; (with_reducible refine (stolelaw12_awake.calls k  false _ A3.out).mono ?_); rintro e w' ⟨rfl, ⟨nd, rfl⟩⟩; refine ⟨_, rfl, ?_⟩))
  go_ret
  exact ⟨by first | rfl | (simp [errW_none, errW_some] <;> rfl) | (simp [*, errW_none, errW_some] <;> rfl), by repeat (first | (with_reducible first | exact HB.out | apply below_alloc | apply pw_below_drewN | apply below_drew1) | exact HB.out)⟩

/-- THE ONE PURE STATEMENT of stolelaw12_FilterBytes: yours. -/
def stolelaw12_FilterBytes.Pure : Prop := ∀ (a0 : Int) (a1 : ByteArray), (Lit.int .i64 a0).wf = true → a1.size ≤ 140737488351232 → ∃ k, stolelaw12_FilterBytes.f k a0 a1 = some true
theorem stolelaw12_FilterBytes.walk (P : stolelaw12_FilterBytes.Pure) (a0 : Int) (a1 : ByteArray) (w : World) (w0 : (Lit.int .i64 a0).wf = true) (w1 : a1.size ≤ 140737488351232) :
  Calls Try.prog 4 #[.int .i64 a0, .string a1] w fun e w' => e = .returned (.bool true) ∧ Below w.heap.size w w' := by
 obtain ⟨k, h⟩ := P a0 a1 w0 w1
 refine (stolelaw12_FilterBytes.calls k a0 a1 true w h).mono ?_
 rintro e w' ⟨rfl, hd⟩
 exact ⟨rfl, hd⟩

end Go.Proofs.Ytnhhbfanpnpgdaa.XF
