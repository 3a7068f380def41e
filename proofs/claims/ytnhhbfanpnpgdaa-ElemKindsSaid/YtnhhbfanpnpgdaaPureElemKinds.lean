/- ElemKinds: the known names and their kinds: the printed functions' plain law, all places reckoned by the kernel. -/
import Derived.Test.YtnhhbfanpnpgdaaXF7
import Derived.Test.YtnhhbfanpnpgdaaPureElems
namespace Go.Proofs.Ytnhhbfanpnpgdaa.Pure
open Go.RowKit Go.Proofs.Ytnhhbfanpnpgdaa.XF Go.Proofs.YtnhhbfanpnpgdaaW.PrintWords Go.Proofs.YtnhhbfanpnpgdaaW.PrintLast Go.Proofs.Ytnhhbfanpnpgdaa.Base Go.Proofs.Ytnhhbfanpnpgdaa.Ext

theorem rem_lt (x : Int) (m : Nat) (hm : 0 < m) (hm2 : m ≤ 1000) : ∃ i : Fin m, wrap64 (Int.tmod (IntKind.u64.wrap x) m) = ((i.val : Nat) : Int) := by
  have h0 : 0 ≤ IntKind.u64.wrap x := by simp [IntKind.wrap, IntKind.bits, IntKind.signed]; omega
  generalize IntKind.u64.wrap x = y at h0
  obtain ⟨n, rfl⟩ := Int.eq_ofNat_of_zero_le h0
  have hlt : n % m < m := Nat.mod_lt _ hm
  refine ⟨⟨n % m, hlt⟩, ?_⟩
  have e : Int.tmod (n : Int) (m : Int) = ((n % m : Nat) : Int) := rfl
  rw [e]
  unfold wrap64
  simp only
  omega

theorem ElemKinds : stolelaw6_ElemKinds.Pure := by
  intro a b ha hb
  refine ⟨5, ?_⟩
  obtain ⟨i, hi⟩ := rem_lt a 10 (by decide) (by decide)
  obtain ⟨j, hj⟩ := rem_lt b 12 (by decide) (by decide)
  unfold stolelaw6_ElemKinds.f
  have hi' : wrap64 (Int.tmod (IntKind.u64.wrap a) 10) = ((i.val : Nat) : Int) := hi
  have hj' : wrap64 (Int.tmod (IntKind.u64.wrap b) 12) = ((j.val : Nat) : Int) := hj
  rw [hi', hj']
  clear hi hj hi' hj' ha hb a b
  revert i j
  decide +kernel
end Go.Proofs.Ytnhhbfanpnpgdaa.Pure
