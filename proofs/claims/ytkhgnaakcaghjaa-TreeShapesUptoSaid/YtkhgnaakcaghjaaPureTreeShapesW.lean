/- TreeShapes: the walk joined with the plain law. -/
import Derived.Test.YtkhgnaakcaghjaaPureTreeShapes
namespace Go.Proofs.Ytkhgnaakcaghjaa.Pure
open Go.RowKit Go.Proofs.Ytkhgnaakcaghjaa.XB Go.Proofs.Ytkhgnaakcaghjaa.XA Go.Proofs.Ytkhgnaakcaghjaa.Ext Go.Proofs.Ytkhgnaakcaghjaa.Tr Go.Proofs.YtkhgnaakcaghjaaW.PrintWords Go.Proofs.YtkhgnaakcaghjaaW.PrintLast
theorem shapes_calls (l : List S41) (A : Option Addr) (c : Nat) (W : World) (hC : Kd.C k41 W A l.length l) (hc : l.length ≤ c) (b1 : toks l ≤ 1048576) (b2 : l.length ≤ 1048576) (_ : ∀ x ∈ l, x.f3.length ≤ 1048576) :
    Calls Try.prog 4 #[.slice A l.length c] W fun e w' => e = .returned (.bool true) ∧ Below W.heap.size W w' := by
  obtain ⟨k, hk⟩ := TreeShapes l (by omega) b1
  exact stolelaw7_TreeShapes.calls k A c l true W hC hc hk
end Go.Proofs.Ytkhgnaakcaghjaa.Pure
