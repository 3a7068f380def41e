/- tree.Build, stoleref5.Build, SameNodes, SameTokens in the print's form. -/
import Derived.Test.YtkhgnaakcaghjaaTrSame
namespace Go.Proofs.Ytkhgnaakcaghjaa.Ext
open Go.RowKit Go.Proofs.Ytkhgnaakcaghjaa.XA Go.Proofs.Ytkhgnaakcaghjaa.Tr Go.Proofs.Ytkhgnaakcaghjaa.Base Go.Proofs.YtkhgnaakcaghjaaW.PrintWords Go.Proofs.YtkhgnaakcaghjaaW.PrintLast Go.Proofs.YtkhgnaakcaghjaaW.PrintMore
set_option linter.unusedVariables false

def tree_Build.f (l0 : List S41) : Option (List S38 × Int) := if toks l0 ≤ 4611686018427387904 then some (buildF l0) else none
theorem tree_Build.calls (A0 : Option Addr) (c0 : Nat) (l0 : List S41) (r1 : List S38) (r2 : Int) (w : World) (hr0 : Kd.C k41 w A0 l0.length l0) (hc0 : l0.length ≤ c0) (h : tree_Build.f l0 = some (r1, r2)) :
    Calls Try.prog 9 #[.slice A0 l0.length c0] w fun e w' => ∃ v0_ : Value, e = .returned (.tuple #[v0_, .int .i64 r2]) ∧ Kd.S k38 38 w' w.heap.size (fun _ => True) v0_ r1 ∧ Below w.heap.size w w' := by
  unfold tree_Build.f at h
  by_cases hs : toks l0 ≤ 4611686018427387904
  · rw [if_pos hs] at h
    have h := Option.some.inj h
    refine (build_calls l0 A0 c0 w hr0 hs).mono ?_
    rintro e w' ⟨v, rfl, h2, h3⟩
    rw [h] at h2
    exact ⟨v, by rw [h], h2, h3⟩
  · rw [if_neg hs] at h; cases h
def stoleref5_Build.f (l0 : List S41) : Option (List S38 × Int) := if toks l0 ≤ 4611686018427387904 then some (buildF l0) else none
theorem stoleref5_Build.calls (A0 : Option Addr) (c0 : Nat) (l0 : List S41) (r1 : List S38) (r2 : Int) (w : World) (hr0 : Kd.C k41 w A0 l0.length l0) (hc0 : l0.length ≤ c0) (h : stoleref5_Build.f l0 = some (r1, r2)) :
    Calls Try.prog 10 #[.slice A0 l0.length c0] w fun e w' => ∃ v0_ : Value, e = .returned (.tuple #[v0_, .int .i64 r2]) ∧ Kd.S k38 38 w' w.heap.size (fun _ => True) v0_ r1 ∧ Below w.heap.size w w' := by
  unfold stoleref5_Build.f at h
  by_cases hs : toks l0 ≤ 4611686018427387904
  · rw [if_pos hs] at h
    have h := Option.some.inj h
    refine (rbuild_calls l0 A0 c0 w hr0 hs).mono ?_
    rintro e w' ⟨v, rfl, h2, h3⟩
    rw [h] at h2
    exact ⟨v, by rw [h], h2, h3⟩
  · rw [if_neg hs] at h; cases h
def stolelaw0_SameNodes.f (l0 l1 : List S38) : Option Bool := if (l0.all fun x => decide (x.f3.length ≤ 4611686018427387904)) = true then some (allEq nodeEq l0 l1) else none
theorem stolelaw0_SameNodes.calls (A0 : Option Addr) (c0 : Nat) (l0 : List S38) (A1 : Option Addr) (c1 : Nat) (l1 : List S38) (r : Bool) (w : World) (hr0 : Kd.C k38 w A0 l0.length l0) (hc0 : l0.length ≤ c0) (hr1 : Kd.C k38 w A1 l1.length l1) (hc1 : l1.length ≤ c1) (h : stolelaw0_SameNodes.f l0 l1 = some r) :
    Calls Try.prog 11 #[.slice A0 l0.length c0, .slice A1 l1.length c1] w fun e w' => e = .returned (.bool r) ∧ Drawn0 w w' := by
  unfold stolelaw0_SameNodes.f at h
  by_cases hs : (l0.all fun x => decide (x.f3.length ≤ 4611686018427387904)) = true
  · rw [if_pos hs] at h
    obtain rfl := Option.some.inj h
    refine sameN_calls l0 l1 A0 A1 c0 c1 w hr0 hr1 (fun x hx => ?_)
    rw [List.all_eq_true] at hs
    exact of_decide_eq_true (hs x hx)
  · rw [if_neg hs] at h; cases h
def stolelaw0_SameTokens.f (l0 l1 : List S41) : Option Bool := if (l0.all fun x => decide (x.f3.length ≤ 4611686018427387904)) = true then some (allEq tokEq l0 l1) else none
theorem stolelaw0_SameTokens.calls (A0 : Option Addr) (c0 : Nat) (l0 : List S41) (A1 : Option Addr) (c1 : Nat) (l1 : List S41) (r : Bool) (w : World) (hr0 : Kd.C k41 w A0 l0.length l0) (hc0 : l0.length ≤ c0) (hr1 : Kd.C k41 w A1 l1.length l1) (hc1 : l1.length ≤ c1) (h : stolelaw0_SameTokens.f l0 l1 = some r) :
    Calls Try.prog 13 #[.slice A0 l0.length c0, .slice A1 l1.length c1] w fun e w' => e = .returned (.bool r) ∧ Drawn0 w w' := by
  unfold stolelaw0_SameTokens.f at h
  by_cases hs : (l0.all fun x => decide (x.f3.length ≤ 4611686018427387904)) = true
  · rw [if_pos hs] at h
    obtain rfl := Option.some.inj h
    refine sameT_calls l0 l1 A0 A1 c0 c1 w hr0 hr1 (fun x hx => ?_)
    rw [List.all_eq_true] at hs
    exact of_decide_eq_true (hs x hx)
  · rw [if_neg hs] at h; cases h
end Go.Proofs.Ytkhgnaakcaghjaa.Ext
