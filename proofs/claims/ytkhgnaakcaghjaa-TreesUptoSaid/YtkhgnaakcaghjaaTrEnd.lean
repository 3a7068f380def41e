/- tree.builder's end: walked. -/
import Derived.Test.YtkhgnaakcaghjaaTrStart
namespace Go.Proofs.Ytkhgnaakcaghjaa.Tr
open Go.RowKit Go.Proofs.Ytkhgnaakcaghjaa.XA Go.Proofs.YtkhgnaakcaghjaaW.PrintWords Go.Proofs.YtkhgnaakcaghjaaW.PrintLast Go.Proofs.YtkhgnaakcaghjaaW.PrintMore
attribute [local go_sem ↓] Go.wp_at_zero Go.wp_at_succ
set_option linter.unusedVariables false
set_option linter.unusedSimpArgs false

/-- The name of the node whose number stands at place i. -/
def nameAt (ns : List S38) (op : List Int) (i : Nat) : ByteArray := (rd_T38 ns (rd op (i : Int))).f1
def endAt (ns : List S38) (op : List Int) (nm : ByteArray) : Nat → List Int
  | 0 => op
  | i + 1 => if (nameAt ns op (i + 1)).toList = nm.toList then op.take (i + 1) else endAt ns op nm i
def endOp (ns : List S38) (op : List Int) (nm : ByteArray) : List Int := endAt ns op nm (op.length - 1)
def OpOk (ns : List S38) (op : List Int) : Prop := ∀ x ∈ op, 0 ≤ x ∧ x < (ns.length : Int)
theorem rd_get (op : List Int) (i : Nat) (hi : i < op.length) : rd op (i : Int) = op[i] := by simp [rd, List.getD_eq_getElem?_getD, List.getElem?_eq_getElem hi]
theorem opOk_rd {ns : List S38} {op : List Int} (h : OpOk ns op) (i : Nat) (hi : i < op.length) : 0 ≤ rd op (i : Int) ∧ rd op (i : Int) < (ns.length : Int) := by
  rw [rd_get op i hi]
  exact h _ (List.getElem_mem _)

set_option maxHeartbeats 3200000 in
set_option maxRecDepth 100000 in
theorem end_calls (w0 w : World) (b : Nat) (ns : List S38) (op : List Int) (nm : ByteArray)
    (hB : Below w0.heap.size w0 w) (hI : Bd 55 w w0.heap.size b (fun _ => True) ns op) (hop : op ≠ []) (hlen : op.length ≤ 4611686018) (hok : OpOk ns op) :
    Calls Try.prog 23 #[.pointer (some ⟨b, 0, none⟩), .string nm] w fun e w' => e = .returned (.tuple #[]) ∧
      Bd 55 w' w0.heap.size b (fun _ => True) ns (endOp ns op nm) ∧ Below w0.heap.size w0 w' := by
  have HBD := Aside0.mk hI
  obtain ⟨hb0, v0, v1, hb1, hs, hr⟩ := hI
  obtain ⟨A0, c0, rfl, hc0, hC0⟩ := Kd.S_reads hs
  obtain ⟨A1, c1, rfl, hc1, hC1⟩ := Kd.R_reads hr
  have y0 : w.cell? ⟨b, 0, none⟩ = some (.slice A0 ns.length c0) := (blk_cell hb1 0).trans rfl
  have y1 : w.cell? ⟨b, 1, none⟩ = some (.slice A1 op.length c1) := (blk_cell hb1 1).trans rfl
  have f1 : w.frozen? ⟨b, 1, none⟩ = false := blk_frozen hb1 1
  have hl : 0 < op.length := List.length_pos_iff.2 hop
  have hns : ns.length ≤ 9223372036854775807 := hC0.2.1
  have HB := Aside0.mk hB
  have HB0 := Aside0.mk hb0
  have HB1 := Aside0.mk hb1
  have HS := Aside0.mk hs
  have HR := Aside0.mk hr
  have HC0 := Aside0.mk hC0
  have HC1 := Aside0.mk hC1
  have HOK := Aside0.mk hok
  have HCC := Aside0.mk hc1
  have hu := Try.underlying38
  clear hb0 hb1 hs hr hC0 hC1 hB hok hop hc0 hc1
  go_enter Try.func23, Try.ntmps23
  go_wp2
  go_loopw [4] (fun i wr => ∃ k m : Nat, i = .int .i64 (k : Int) ∧ k < op.length ∧ Aside0 (endOp ns op nm = endAt ns op nm k) ∧ wr = w.drewN m)
    (fun i _ => (RowKit.intOf i).toNat)
  case atStart => exact ⟨op.length - 1, 0, by congr 1; omega, by omega, ⟨rfl⟩, rfl⟩
  case round =>
    obtain ⟨k, m, rfl, hk, HE, rfl⟩ := hrel
    rcases Nat.eq_zero_or_pos k with h0 | h0
    · subst h0
      go_wp2
      go_end0
      rw [HE.out]
      exact ⟨rfl, HBD.out.drewN _, pw_below_drewN HB.out _⟩
    · obtain ⟨ad1, e1, hx1⟩ := Kd.at_int HC1.out (k : Int) (by omega) (by omega)
      cases e1
      obtain ⟨x, hx⟩ : ∃ x, rd op (k : Int) = x := ⟨_, rfl⟩
      obtain ⟨hxa, hxb⟩ := opOk_rd HOK.out k hk
      rw [hx] at hx1 hxa hxb
      obtain ⟨ad0, A3, c3, e0, _, g1, _⟩ := at_T38 HC0.out x hxa hxb
      cases e0
      have hnm : (rd_T38 ns x).f1 = nameAt ns op k := by unfold nameAt; rw [hx]
      rw [hnm] at g1
      simp only [Int.toNat_natCast] at hx1
      have q0 : (0 ≤ x) = True := eq_true hxa
      have q1 : (x < (ns.length : Int)) = True := eq_true hxb
      have hk1 : (0 : Int) < (k : Int) := by omega
      have hk0 : (0 : Int) ≤ (k : Int) := by omega
      have hk2 : (k : Int) < (op.length : Int) := by omega
      have hEE : endAt ns op nm k = if (nameAt ns op k).toList = nm.toList then op.take k else endAt ns op nm (k - 1) := by
        obtain ⟨k', rfl⟩ : ∃ k', k = k' + 1 := ⟨k - 1, by omega⟩
        rfl
      clear hxa hxb hx hnm
      by_cases hq : (nameAt ns op k).toList = nm.toList
      · have hqb : ((nameAt ns op k).toList == nm.toList) = true := by simpa using hq
        rw [if_pos hq] at hEE
        have HQ := Aside0.mk (HE.out.trans hEE)
        obtain ⟨i0, hi0, _⟩ := Option.map_eq_some_iff.1 infoInt
        have hsl := take_run (P := Try.prog) 39 3 .i64 Try.underlying39 hi0 (some ad1) op.length c1 k (by have := HCC.out; omega)
        clear hq hEE HE
        go_wp2
        go_quiet (fail)
        go_wp2
        refine bodyPost_ret (results_none rfl _ _ _) rfl ?_
        rw [HQ.out]
        exact ⟨rfl, ⟨HB0.out, _, _, blk_set (w := w.drewN _) HB1.out 1 _, Kd.S_set (Kd.S_drewN HS.out _) HB1.out (by decide) 1 _, Kd.R_set (Kd.R_drewN (Kd.R_take HR.out (Nat.le_of_lt hk)) _) HB1.out (by decide) 1 _⟩, (pw_below_drewN HB.out _).setCell HB0.out _⟩
      · have hqb : ((nameAt ns op k).toList == nm.toList) = false := by simpa using hq
        rw [if_neg hq] at hEE
        have HQ := Aside0.mk (HE.out.trans hEE)
        clear hq hEE HE
        go_wp2
        go_quiet (fail)
        go_wp2
        go_roundw
        case rel => exact ⟨k - 1, _, by congr 1; omega, by omega, HQ, rfl⟩
        case measure => simp [RowKit.intOf]; omega
end Go.Proofs.Ytkhgnaakcaghjaa.Tr
