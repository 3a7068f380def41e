/- Laid by xprint.py, a program of this session over the kit's print: for each Go function one Lean function of the same answers, and the walk that shows it. -/
import Derived.Test.YtkhgnaakcaghjaaProg
import Derived.Below
import Derived.Deep.Draws
import Derived.Deep.AppendLies
import Derived.Maps.AppendAt
import Derived.OwnWalk
import Derived.Laws.BytesArg
import Derived.Laws.MakeOwn
import Derived.Laws.OwnMore
import Derived.Deep.OwnRows
import Derived.Tactics
import Derived.Lib.ConvBytes
import Derived.Laws.Slices
import Derived.WalkKit
import Derived.KernelRfl
import Derived.RowKit3
import Derived.Deep.LoopGhost
import Derived.Deep.QuietTactic
import Derived.BigQuiet
import Derived.WideLaws
import Derived.Deep.DeepCutAuto
import Derived.Deep.CutBlock
import Derived.Deep.RegionHeld3
import Derived.Laws.Rows
import Derived.Lib.AppendStr
import Derived.ArgAppend
import Derived.Laws.IdiomCopy
import Derived.OrdersHeld
import Derived.Laws.BitsLemmas
import Derived.RowKit
import Derived.Test.YtkhgnaakcaghjaaWWords
import Derived.Test.YtkhgnaakcaghjaaWLast
import Derived.Test.YtkhgnaakcaghjaaWTab
import Derived.Test.YtkhgnaakcaghjaaWFour
import Derived.Test.YtkhgnaakcaghjaaWQPut
import Derived.Test.YtkhgnaakcaghjaaWApart
import Derived.Test.YtkhgnaakcaghjaaWArr
import Derived.Test.YtkhgnaakcaghjaaWZeros
import Derived.Test.YtkhgnaakcaghjaaWFoot
import Derived.Test.YtkhgnaakcaghjaaWKept
import Derived.Test.YtkhgnaakcaghjaaWShare
import Derived.Test.YtkhgnaakcaghjaaWN
import Derived.Test.YtkhgnaakcaghjaaWFootNe
import Derived.Test.YtkhgnaakcaghjaaWAt
import Derived.Test.YtkhgnaakcaghjaaWEqStruct
import Derived.Test.YtkhgnaakcaghjaaWRepsOne
import Derived.Test.YtkhgnaakcaghjaaWInv
import Derived.Test.YtkhgnaakcaghjaaWInvWords
import Derived.Test.YtkhgnaakcaghjaaWGuard
import Derived.Test.YtkhgnaakcaghjaaWNEv
import Derived.Test.YtkhgnaakcaghjaaWMore
import Derived.Test.YtkhgnaakcaghjaaTrExt
namespace Go.Proofs.Ytkhgnaakcaghjaa.XB
open Go.RowKit Go.Proofs.Ytkhgnaakcaghjaa.Ext Go.Proofs.Ytkhgnaakcaghjaa.XA Go.Proofs.YtkhgnaakcaghjaaW.PrintWords Go.Proofs.YtkhgnaakcaghjaaW.PrintLast Go.Proofs.YtkhgnaakcaghjaaW.PrintMore
attribute [local go_sem] max2_int min2_int max_two min_two max_three min_three max_four min_four   -- for this text's walks alone
set_option linter.unusedVariables false
set_option linter.unusedSimpArgs false



theorem info3 : (Try.prog.info? 3).map (fun i => (i.zero, i.size, i.bytes)) = some (some (.int .i64 0), 1, 8) := by kernel_rfl
theorem info9 : (Try.prog.info? 9).map (fun i => (i.zero, i.size, i.bytes)) = some (some (.string ⟨#[]⟩), 1, 16) := by kernel_rfl
theorem info38 : (Try.prog.info? 38).map (fun i => (i.zero, i.size, i.bytes)) = some (some (.agg #[(.int .i64 0), (.string ⟨#[]⟩), (.string ⟨#[]⟩), (.slice none 0 0), (.int .i64 0)]), 5, 72) := by kernel_rfl
-- the values' own types
/-! #### struct type 48 -/
/-! #### struct type 41 -/
/-! #### struct type 38 -/
theorem at_T38 {w : World} {A : Option Addr} {n : Nat} {xs : List S38} (h : Kd.C k38 w A n xs) (i : Int) (h0 : 0 ≤ i) (h1 : i < n) : ∃ ad A3 c3, A = some ad ∧ w.cell? (ad.add (i.toNat * 5)) = some (.int .i64 (rd_T38 xs i).f0) ∧ w.cell? ⟨(ad.add (i.toNat * 5)).block, (ad.add (i.toNat * 5)).off + 1, none⟩ = some (.string (rd_T38 xs i).f1) ∧ w.cell? ⟨(ad.add (i.toNat * 5)).block, (ad.add (i.toNat * 5)).off + 2, none⟩ = some (.string (rd_T38 xs i).f2) ∧ w.cell? ⟨(ad.add (i.toNat * 5)).block, (ad.add (i.toNat * 5)).off + 3, none⟩ = some (.slice A3 (rd_T38 xs i).f3.length c3) ∧ w.cell? ⟨(ad.add (i.toNat * 5)).block, (ad.add (i.toNat * 5)).off + 4, none⟩ = some (.int .i64 (rd_T38 xs i).f4) ∧ (rd_T38 xs i).f3.length ≤ c3 ∧ k48.C w A3 (rd_T38 xs i).f3.length (rd_T38 xs i).f3 := by
  obtain ⟨ad, c, e, _, hK, hc0⟩ := Kd.C_get h z38 i h0 h1
  have hc : ∀ j u, c[j]? = some u → w.cell? (ad.add (i.toNat * 5 + j)) = some u := hc0
  obtain ⟨A3, c3, rfl, l3, g3⟩ := k38_open hK
  exact ⟨ad, A3, c3, e, hc 0 _ rfl, by rw [← add_field _ _ 1 (by omega)]; exact hc 1 _ rfl, by rw [← add_field _ _ 2 (by omega)]; exact hc 2 _ rfl, by rw [← add_field _ _ 3 (by omega)]; exact hc 3 _ rfl, by rw [← add_field _ _ 4 (by omega)]; exact hc 4 _ rfl, l3, g3⟩

end Go.Proofs.Ytkhgnaakcaghjaa.XB
