/- TreeDeep: how deep, up to 64: each depth reckoned. -/
import Derived.Test.YtkhgnaakcaghjaaXB3
import Derived.Test.YtkhgnaakcaghjaaBase
namespace Go.Proofs.Ytkhgnaakcaghjaa.Pure
open Go.RowKit Go.Proofs.Ytkhgnaakcaghjaa.XB Go.Proofs.Ytkhgnaakcaghjaa.XA Go.Proofs.Ytkhgnaakcaghjaa.Ext Go.Proofs.Ytkhgnaakcaghjaa.Tr Go.Proofs.Ytkhgnaakcaghjaa.Base Go.Proofs.YtkhgnaakcaghjaaW.PrintWords Go.Proofs.YtkhgnaakcaghjaaW.PrintLast

theorem awake_true : stolelaw7_awake.f = some true := by decide +kernel
theorem deep_all : ∀ n : Fin 64, stolelaw7_TreeDeep.l0 150 ((n.val : Int) + 1) ([] : List S41) 0 = some true := by decide +kernel
theorem TreeDeep : stolelaw7_TreeDeep.Pure := by
  intro a h
  refine ⟨150, ?_⟩
  unfold stolelaw7_TreeDeep.f
  rw [awake_true]
  simp only [Option.bind_some, if_true]
  have hm := and_mask a 6 (by decide)
  rw [show (2 : Int) ^ 6 - 1 = 63 from rfl, show (2 : Int) ^ 6 = 64 from rfl] at hm
  rw [hm]
  obtain ⟨n, hn⟩ : ∃ n : Nat, a % 64 = n := ⟨(a % 64).toNat, by omega⟩
  have hlt : n < 64 := by omega
  have := deep_all ⟨n, hlt⟩
  rw [hn, show wrap64 (1 + (n : Int)) = (n : Int) + 1 by unfold wrap64; omega]
  exact this
end Go.Proofs.Ytkhgnaakcaghjaa.Pure
