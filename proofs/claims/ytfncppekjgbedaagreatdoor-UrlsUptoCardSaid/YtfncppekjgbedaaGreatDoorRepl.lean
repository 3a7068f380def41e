/- strings.Replacer at the three breaks: build. -/
import Derived.Test.YtfncppekjgbedaaGreatDoorOnce
import Derived.Test.YtfncppekjgbedaaGreatDoorWMore
import Derived.Test.YtfncppekjgbedaaGreatDoorWKept
import Derived.BigCall
import Derived.Handy
import Derived.WalkLawsBesides
import Derived.Lib.BufferMore
import Derived.Laws.IdiomStrings
import Derived.Laws.MakeOwn
import Derived.Deep.WholeRow
import Derived.Lib.SmallJoins
import Derived.Deep.RegionHeld3
import Derived.Deep.DrawnRows
namespace Go.Proofs.YtfncppekjgbedaaGreatDoor.Sync
open Go.RowKit Go.Lib Go.Proofs.YtfncppekjgbedaaGreatDoorW.PrintWords Go.Proofs.YtfncppekjgbedaaGreatDoorW.PrintLast Go.Proofs.YtfncppekjgbedaaGreatDoorW.PrintMore
attribute [local go_sem ↓] Go.wp_at_zero Go.wp_at_succ
set_option linter.unusedVariables false
set_option linter.unusedSimpArgs false

theorem infoStr : (Tryz.prog.info? 9).map (fun i => (i.zero, i.size, i.bytes)) = some (some (.string ⟨#[]⟩), 1, 16) := by kernel_rfl
theorem make3 (w : World) : ∃ w1, (Instr.makeSlice 55 (.int .i64 0) (.int .i64 3)).run Tryz.prog w = .ok (.slice (some ⟨w.heap.size, 0, none⟩) 0 3) w1 ∧
    Kd.R Kd.string 9 w1 w.heap.size (fun _ => True) (.slice (some ⟨w.heap.size, 0, none⟩) 0 3) [] ∧ w.grownBy w1 none := by
  obtain ⟨i0, hi, hzz⟩ := Option.map_eq_some_iff.1 infoStr
  simp only [Prod.mk.injEq] at hzz
  obtain ⟨hz0, hz1, hz2⟩ := hzz
  obtain ⟨w1, h1, h2, h3⟩ := run_make_own (P := Tryz.prog) w w.heap.size 55 9 i0 (.string ⟨#[]⟩) 1 Tryz.underlying55 hi hz0 hz1 .i64 .i64 3 (by rw [hz2]; decide) (by decide) (Nat.le_refl _)
  exact ⟨w1, h1, ⟨fun _ _ => trivial, [], h2, rfl, fun j p hp => by simp at hp⟩, h3⟩
theorem rep_size : (Tryz.prog.info? 93).map (·.size) = some 257 := by kernel_rfl
theorem zero_size : Tryz.zeroCells93.size = 257 := by kernel_rfl
theorem zero_one : Tryz.zeroCells93.all (·.oneCell') = true := by kernel_rfl
theorem zero_list : Tryz.zeroCells93.toList = List.replicate 257 (.slice none 0 0) := by kernel_rfl
theorem store_rep (w : World) (v : Value) (hv : v.oneCell' = true) :
    (storeCells ⟨w.heap.size, 0, none⟩ (Tryz.zeroCells93.toList.set 256 v)).run Tryz.prog (w.alloc (.cells Tryz.zeroCells93 93)) =
      .ok () (w.alloc (.cells (Tryz.zeroCells93.setIfInBounds 256 v) 93)) := by
  have := run_storeCells_new (P := Tryz.prog) w 93 Tryz.zeroCells93 (Tryz.zeroCells93.setIfInBounds 256 v) (by rw [rep_size, Array.size_setIfInBounds, zero_size]) (by rw [Array.size_setIfInBounds]) (by
    rw [Array.all_eq_true]
    intro i hi
    rw [Array.size_setIfInBounds] at hi
    rw [Array.getElem_setIfInBounds]
    split
    · exact hv
    · exact Array.all_eq_true.1 zero_one i hi)
  rwa [Array.toList_setIfInBounds] at this
/-- The replacer's block c: an empty text stands for each byte of D, nothing for the others. -/
def RepBlk (c : Nat) (D : List Nat) (v : Value) (w : World) : Prop :=
  ∃ cs : Array Value, w.heap[c]? = some (.cells cs 93 (0, 0)) ∧ cs.size = 257 ∧ (∀ j, j < 256 → j ∉ D → cs[j]? = some (.slice none 0 0)) ∧ (∀ j, j < 256 → j ∈ D → ∃ a k, cs[j]? = some (.slice (some a) 0 k)) ∧ cs[256]? = some v
theorem RepBlk.cell {c : Nat} {D : List Nat} {v : Value} {w : World} (h : RepBlk c D v w) (j : Nat) (hj : j < 256) (hD : j ∉ D) : w.cell? ⟨c, j, none⟩ = some (.slice none 0 0) := by
  obtain ⟨cs, h1, _, h2, _⟩ := h
  exact (blk_cell h1 j).trans (h2 j hj hD)
theorem RepBlk.cellD {c : Nat} {D : List Nat} {v : Value} {w : World} (h : RepBlk c D v w) (j : Nat) (hj : j < 256) (hD : j ∈ D) : ∃ a k, w.cell? ⟨c, j, none⟩ = some (.slice (some a) 0 k) := by
  obtain ⟨cs, h1, _, _, h2, _⟩ := h
  obtain ⟨a, k, h3⟩ := h2 j hj hD
  exact ⟨a, k, (blk_cell h1 j).trans h3⟩
theorem RepBlk.row {c : Nat} {D : List Nat} {v : Value} {w : World} (h : RepBlk c D v w) : w.cell? ⟨c, 256, none⟩ = some v := by
  obtain ⟨cs, h1, _, _, _, h2⟩ := h
  exact (blk_cell h1 256).trans h2
theorem RepBlk.frozen {c : Nat} {D : List Nat} {v : Value} {w : World} (h : RepBlk c D v w) (j : Nat) : w.frozen? ⟨c, j, none⟩ = false := by
  obtain ⟨cs, h1, _⟩ := h
  exact blk_frozen h1 j
theorem RepBlk.below {c : Nat} {D : List Nat} {v : Value} {w w1 : World} (h : RepBlk c D v w) (hb : Below w.heap.size w w1) : RepBlk c D v w1 := by
  obtain ⟨cs, h1, h2⟩ := h
  exact ⟨cs, blk_below h1 hb, h2⟩
theorem RepBlk.grown {c : Nat} {D : List Nat} {v : Value} {w w1 : World} {row : Option Nat} (h : RepBlk c D v w) (hg : w.grownBy w1 row) (hne : some c ≠ row) : RepBlk c D v w1 := by
  obtain ⟨cs, h1, h2⟩ := h
  exact ⟨cs, blk_grown h1 hg hne, h2⟩
theorem RepBlk.put {c : Nat} {D : List Nat} {v : Value} {w : World} (h : RepBlk c D v w) (u : Value) : RepBlk c D u (w.setCell ⟨c, 256, none⟩ u) := by
  obtain ⟨cs, h1, h2, h3, h4, h5⟩ := h
  refine ⟨_, Go.Joins.block_setCell h1 u, by rw [Array.size_setIfInBounds]; exact h2, fun j hj hD => ?_, fun j hj hD => ?_, ?_⟩
  · rw [Array.getElem?_setIfInBounds, if_neg (by omega)]; exact h3 j hj hD
  · rw [Array.getElem?_setIfInBounds, if_neg (by omega)]; exact h4 j hj hD
  · rw [Array.getElem?_setIfInBounds, if_pos rfl, if_pos (by omega)]
theorem RepBlk.mark {c o k : Nat} {D : List Nat} {v : Value} {w : World} {a : Addr} (h : RepBlk c D v w) (ho : o < 256) : RepBlk c (o :: D) v (w.setCell ⟨c, o, none⟩ (.slice (some a) 0 k)) := by
  obtain ⟨cs, h1, h2, h3, h4, h5⟩ := h
  refine ⟨_, Go.Joins.block_setCell h1 _, by rw [Array.size_setIfInBounds]; exact h2, fun j hj hD => ?_, fun j hj hD => ?_, ?_⟩
  · rw [List.mem_cons, not_or] at hD
    rw [Array.getElem?_setIfInBounds, if_neg (Ne.symm hD.1)]; exact h3 j hj hD.2
  · rw [Array.getElem?_setIfInBounds]
    by_cases e : o = j
    · rw [if_pos e, if_pos (by omega)]; exact ⟨a, k, rfl⟩
    · rw [if_neg e]; rcases List.mem_cons.1 hD with hD | hD
      · exact absurd hD.symm e
      · exact h4 j hj hD
  · rw [Array.getElem?_setIfInBounds, if_neg (by omega)]; exact h5
theorem rep_init (w : World) (v : Value) : RepBlk w.heap.size [] v (w.alloc (.cells (Tryz.zeroCells93.setIfInBounds 256 v) 93)) := by
  have hz : ∀ j, j < 257 → Tryz.zeroCells93[j]? = some (.slice none 0 0) := by
    intro j hj
    rw [← Array.getElem?_toList, zero_list, List.getElem?_replicate, if_pos hj]
  refine ⟨_, heap_alloc_new w _, by rw [Array.size_setIfInBounds, zero_size], fun j hj _ => ?_, fun j _ h => (by cases h), ?_⟩
  · rw [Array.getElem?_setIfInBounds, if_neg (by omega)]
    exact hz j (by omega)
  · rw [Array.getElem?_setIfInBounds, if_pos rfl, if_pos (by rw [zero_size]; decide)]
theorem conv_one (w : World) (b : UInt8) : (convert 30 9 (.slice (some ⟨w.heap.size, 0, none⟩) 1 1)).run Tryz.prog (w.alloc (.cells #[.int .u8 (b.toNat : Nat)] 5)) = .ok (.string ⟨#[b]⟩) (w.alloc (.cells #[.int .u8 (b.toNat : Nat)] 5)) := by
  refine run_convert_bytes_back (w.alloc (.cells #[.int .u8 (b.toNat : Nat)] 5)) 30 9 5 ⟨w.heap.size, 0, none⟩ 1 [b] Tryz.underlying30 Tryz.underlying5 Tryz.underlying9 (fun j hj => ?_)
  obtain rfl : j = 0 := by simp at hj; omega
  rw [show (⟨w.heap.size, 0, none⟩ : Addr).add 0 = ⟨w.heap.size, 0, none⟩ from rfl, Lib.cell_of_heap (heap_alloc_last w _)]; rfl
def gone : Nat → List ByteArray
  | 0 => []
  | 1 => [⟨#[13]⟩]
  | 2 => [⟨#[13]⟩, ⟨#[10]⟩]
  | _ => [⟨#[13]⟩, ⟨#[10]⟩, ⟨#[9]⟩]
def goneB : Nat → List Nat
  | 0 => []
  | 1 => [13]
  | 2 => [10, 13]
  | _ => [9, 10, 13]
end Go.Proofs.YtfncppekjgbedaaGreatDoor.Sync
