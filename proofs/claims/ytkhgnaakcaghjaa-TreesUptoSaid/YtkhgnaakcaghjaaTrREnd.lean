/- stoleref5.maker's token at an end: walked. -/
import Derived.Test.YtkhgnaakcaghjaaTrRStart
namespace Go.Proofs.Ytkhgnaakcaghjaa.Tr
open Go.RowKit Go.Proofs.Ytkhgnaakcaghjaa.XA Go.Proofs.YtkhgnaakcaghjaaW.PrintWords Go.Proofs.YtkhgnaakcaghjaaW.PrintLast Go.Proofs.YtkhgnaakcaghjaaW.PrintMore
attribute [local go_sem ↓] Go.wp_at_zero Go.wp_at_succ
set_option linter.unusedVariables false
set_option linter.unusedSimpArgs false

set_option maxHeartbeats 3200000 in
set_option maxRecDepth 100000 in
theorem rend_calls (w0 w : World) (b : Nat) (ns : List S38) (op : List Int) (nm tx : ByteArray) (ats : List S48) (sf : Bool) (A : Option Addr) (c : Nat)
    (hB : Below w0.heap.size w0 w) (hI : Bd 62 w w0.heap.size b (fun _ => True) ns op) (hn : ns ≠ []) (hop : op ≠ []) (hlen : op.length ≤ 4611686018) (hns : ns.length ≤ 4611686017)
    (hok : OpOk ns op) (hC : Kd.C k48 w A ats.length ats) :
    Calls Try.prog 25 #[.pointer (some ⟨b, 0, none⟩), .agg #[.int .i64 2, .string nm, .string tx, .slice A ats.length c, .bool sf]] w fun e w' => e = .returned (.tuple #[]) ∧
      Bd 62 w' w0.heap.size b (fun _ => True) ns (endOp ns op nm) ∧ Below w0.heap.size w0 w' := by
  obtain ⟨wa, hwa⟩ : ∃ wa, w.alloc (.cells #[.int .i64 2, .string nm, .string tx, .slice A ats.length c, .bool sf] 41) = wa := ⟨_, rfl⟩
  have hlow : Below w.heap.size w wa := by rw [← hwa]; exact (Below.refl _ _).alloc (Nat.le_refl _) _
  have hga : wa.heap[w.heap.size]? = some (.cells #[.int .i64 2, .string nm, .string tx, .slice A ats.length c, .bool sf] 41 (0, 0)) := by rw [← hwa]; simpa using heap_alloc_new w _
  have hBa : Below w0.heap.size w0 wa := hB.trans (hlow.mono hB.size)
  have hIa := hI.below hlow
  have HBD := Aside0.mk hIa
  have HB := Aside0.mk hBa
  have HCa := Aside0.mk (Kd.C_below hC hlow)
  have HOK := Aside0.mk hok
  clear hok
  obtain ⟨hb0, v0, v1, hb1, hs, hr⟩ := hIa
  obtain ⟨A1, c1, rfl, hc1, hC1⟩ := Kd.R_reads hr
  have hl : 0 < op.length := List.length_pos_iff.2 hop
  obtain ⟨j, hj⟩ : ∃ j : Int, (op.length : Int) - 1 = j := ⟨_, rfl⟩
  obtain ⟨ad, e, hx⟩ := Kd.at_int hC1 j (by omega) (by omega)
  cases e
  have hlr := last_rd op hop
  rw [hj] at hlr
  rw [hlr] at hx
  have hw : IntKind.i64.wrap ((op.length : Int) - 1) = j := by rw [← hj]; exact IntWalk.i64_in _ (by omega)
  have p0 : (0 ≤ j) = True := eq_true (by omega)
  have p1 : (j < (op.length : Int)) = True := eq_true (by omega)
  have hnl : 0 < ns.length := List.length_pos_iff.2 hn
  obtain ⟨g, cap, A3, c3, rfl, hg0, hg1, hg2, x0, x1, x2, x3, x4, hf, hst⟩ := S_at hs (ns.length - 1) (by omega)
  obtain ⟨l, hl'⟩ : ∃ l, ns[ns.length - 1]'(by omega) = l := ⟨_, rfl⟩
  rw [hl'] at x0 x1 x2 x3 x4 hst
  have hget : ns.getLast? = some l := by rw [List.getLast?_eq_getElem?, List.getElem?_eq_getElem (by omega), hl']
  have HGet := Aside0.mk hget
  obtain ⟨n, hn'⟩ : ∃ n : Int, (ns.length : Int) - 1 = n := ⟨_, rfl⟩
  have hwn : IntKind.i64.wrap ((ns.length : Int) - 1) = n := by rw [← hn']; exact IntWalk.i64_in _ (by omega)
  have q0 : (0 ≤ n) = True := eq_true (by omega)
  have q1 : (n < (ns.length : Int)) = True := eq_true (by omega)
  have hjn : ns.length - 1 = n.toNat := by omega
  have HJN := Aside0.mk hjn
  rw [hjn] at x0 x1 x2 x3 x4 hst hf
  have y0 : wa.cell? ⟨b, 0, none⟩ = some (.slice (some ⟨g, 0, none⟩) ns.length cap) := (blk_cell hb1 0).trans rfl
  have y1 : wa.cell? ⟨b, 1, none⟩ = some (.slice (some ad) op.length c1) := (blk_cell hb1 1).trans rfl
  obtain ⟨t, htb⟩ : ∃ t, w.heap.size = t := ⟨_, rfl⟩
  rw [htb] at hga
  have z0 : wa.cell? ⟨t, 0, none⟩ = some (.int .i64 2) := (blk_cell hga 0).trans rfl
  have z1 : wa.cell? ⟨t, 1, none⟩ = some (.string nm) := (blk_cell hga 1).trans rfl
  have z2 : wa.cell? ⟨t, 2, none⟩ = some (.string tx) := (blk_cell hga 2).trans rfl
  have z3 : wa.cell? ⟨t, 3, none⟩ = some (.slice A ats.length c) := (blk_cell hga 3).trans rfl
  have HGA := Aside0.mk hga
  have HS := Aside0.mk hs
  have HC0 := Aside0.mk (Kd.S_reads' hs).2.2
  have hlp : 0 < op.length := hl
  have HJ := Aside0.mk hj
  have HST := Aside0.mk hst
  have HF := Aside0.mk hf
  have HR := Aside0.mk hr
  have HB0 := Aside0.mk hb0
  have HB1 := Aside0.mk hb1
  have HG0 := Aside0.mk hg0
  have HCC := Aside0.mk hc1
  have HC1 := Aside0.mk hC1
  have HTB := Aside0.mk (show w0.heap.size ≤ t by rw [← htb]; exact hB.size)
  obtain ⟨cells, hcells⟩ := hg2
  have HCE := Aside0.mk hcells
  have HNB := Aside0.mk (show g ≠ b from blk_ne hcells hb1 (by decide))
  have hu1 := Try.underlying38
  have hu2 := Try.underlying41
  clear hI hC hlow hga hBa hB hop hn hb0 hb1 hs hr hC1 hc1 hl hj hlr hnl hg0 hg1 hl' hget hn' hjn hst hf hcells
  go_enter Try.func25, Try.ntmps25
  go_wp2
  clear htb hwa
  go_quiet (fail)
  go_wp2
  have y0' : ∀ m, (wa.drewN m).cell? ⟨b, 0, none⟩ = some (.slice (some ⟨g, 0, none⟩) ns.length cap) := fun m => y0
  clear x0 x1 x2 x3 x4 HST HF HCE HNB HGet hx y0'
  go_loopw [6] (fun i wr => ∃ k m : Nat, i = .int .i64 (k : Int) ∧ k < op.length ∧ Aside0 (endOp ns op nm = endAt ns op nm k) ∧ wr = wa.drewN m)
    (fun i _ => (RowKit.intOf i).toNat)
  case atStart => exact ⟨op.length - 1, nq, by congr 1; have := HJ.out; omega, by omega, ⟨rfl⟩, rfl⟩
  case round =>
    obtain ⟨k, m, rfl, hk, HE, rfl⟩ := hrel
    rcases Nat.eq_zero_or_pos k with h0 | h0
    · subst h0
      go_wp2
      go_end0
      rw [HE.out]
      exact ⟨rfl, HBD.out.drewN _, pw_below_drewN HB.out _⟩
    · obtain ⟨ad1, e1, hx1⟩ := Kd.at_int HC1.out (k : Int) (by omega) (by omega)
      obtain rfl : ad = ad1 := by injection e1
      obtain ⟨x, hx⟩ : ∃ x, rd op (k : Int) = x := ⟨_, rfl⟩
      obtain ⟨hxa, hxb⟩ := opOk_rd HOK.out k hk
      rw [hx] at hx1 hxa hxb
      obtain ⟨ad0, A5, c5, e0, _, g1, _⟩ := at_T38 HC0.out x hxa hxb
      obtain rfl : (⟨g, 0, none⟩ : Addr) = ad0 := by injection e0
      have hnm : (rd_T38 ns x).f1 = nameAt ns op k := by unfold nameAt; rw [hx]
      rw [hnm] at g1
      simp only [Int.toNat_natCast] at hx1
      simp only [add_plain] at g1
      have qx0 : (0 ≤ x) = True := eq_true hxa
      have qx1 : (x < (ns.length : Int)) = True := eq_true hxb
      have hk1 : (0 : Int) < (k : Int) := by omega
      have hk0 : (0 : Int) ≤ (k : Int) := by omega
      have hk2 : (k : Int) < (op.length : Int) := by omega
      have hEE : endAt ns op nm k = if (nameAt ns op k).toList = nm.toList then op.take k else endAt ns op nm (k - 1) := by
        obtain ⟨k', rfl⟩ : ∃ k', k = k' + 1 := ⟨k - 1, by omega⟩
        rfl
      clear hxa hxb hx hnm
      by_cases hq : (nameAt ns op k).toList = nm.toList
      · have hqb : ((nameAt ns op k).toList == nm.toList) = true := by simpa using hq
        rw [if_pos hq] at hEE
        have HQ := Aside0.mk (HE.out.trans hEE)
        obtain ⟨i0, hi0, _⟩ := Option.map_eq_some_iff.1 infoInt
        have hsl := take_run (P := Try.prog) 39 3 .i64 Try.underlying39 hi0 (some ad) op.length c1 k (by have := HCC.out; omega)
        clear hq hEE HE hi0
        have hlk : (op.take k).length = k := by rw [List.length_take]; omega
        have hct := Kd.C_take HC1.out (Nat.le_of_lt hk)
        rw [hlk] at hct
        have HCT := Aside0.mk hct
        clear hct hlk
        go_wp2
        go_quiet (fail)
        obtain ⟨wd, hwd⟩ : ∃ wd, wa.drewN (m + nq) = wd := ⟨_, rfl⟩
        have y1' : wd.cell? ⟨b, 1, none⟩ = some (.slice (some ad) op.length c1) := by rw [← hwd]; exact y1
        have HBD' := Aside0.mk (show Bd 62 wd w0.heap.size b (fun _ => True) ns op by rw [← hwd]; exact HBD.out.drewN _)
        have HB1' := Aside0.mk (show wd.heap[b]? = some (.cells #[.slice (some ⟨g, 0, none⟩) ns.length cap, .slice (some ad) op.length c1] 62 (0, 0)) by rw [← hwd]; exact HB1.out)
        have HS' := Aside0.mk (show Kd.S k38 38 wd w0.heap.size (fun _ => True) (.slice (some ⟨g, 0, none⟩) ns.length cap) ns by rw [← hwd]; exact Kd.S_drewN HS.out _)
        have HBx := Aside0.mk (show Below w0.heap.size w0 wd by rw [← hwd]; exact pw_below_drewN HB.out _)
        have HCT' := Aside0.mk (show Kd.C (Kd.int .i64) (wd.alloc (.cells #[] 3)) (some ad) k (op.take k) by rw [← hwd]; exact Kd.C_alloc (Kd.C_drewN HCT.out _) _)
        have HO := Aside0.mk (show Kd.R (Kd.int .i64) 3 (wd.alloc (.cells #[] 3)) wd.heap.size (fun _ => True) (.slice (some ⟨wd.heap.size, 0, none⟩) 0 0) [] from ⟨fun _ _ => trivial, OwnRow.lit wd wd.heap.size (Reps.none _ _) (Nat.le_refl _) (by decide)⟩)
        have HBL := Aside0.mk (show Below wd.heap.size wd (wd.alloc (.cells #[] 3)) from (Below.refl _ _).alloc (Nat.le_refl _) _)
        clear y0 y1 z0 z1 z2 z3 hx1 g1
        have y1'' := cell_alloc y1' (.cells #[] 3)
        go_wp2_with (at_builtin; refine Kd.R_append_rows (Kd.int .i64) (w0 := wd) wd.heap.size rfl (.tmp 151) (.tmp 157) 39 3 (.int .i64 0) 8 rfl Try.underlying39 infoInt rfl (by decide) (by decide) (.slice (some ⟨wd.heap.size, 0, none⟩) 0 0) [] (op.take k) (some ad) k c1 (fun _ => True) (fun _ => False) rfl rfl HO.out HCT'.out (fun _ _ h => h) (fun _ h => h.elim) (fun _ _ => trivial) HBL.out HBL.out.size (by simp only [List.length_nil]; omega) ?_; intro v9 w9 hR9 hB9 hgr hat; rw [List.nil_append] at hR9; obtain ⟨A9, c9, e9⟩ := Kd.R_slice hR9; rw [List.length_take] at e9; subst e9; have b9 := (hB9.block b (blk_lt HB1'.out)).trans HB1'.out; have b9c : w9.cell? ⟨b, 1, none⟩ = some (.slice (some ad) op.length c1) := (blk_cell b9 1).trans rfl; have b9f := blk_frozen b9 1)
        refine bodyPost_ret (results_none rfl _ _ _) rfl ?_
        rw [HQ.out]
        exact ⟨rfl, ⟨HB0.out, _, _, blk_set b9 1 _, Kd.S_set (Kd.S_below HS'.out hB9) b9 (by decide) 1 _, Kd.R_set (Kd.R_lower hR9 HBx.out.size) b9 (by decide) 1 _⟩, (HBx.out.trans (hB9.mono HBx.out.size)).setCell HB0.out _⟩
      · have hqb : ((nameAt ns op k).toList == nm.toList) = false := by simpa using hq
        rw [if_neg hq] at hEE
        have HQ := Aside0.mk (HE.out.trans hEE)
        clear hq hEE HE
        go_wp2
        go_quiet (fail)
        go_wp2
        go_roundw
        case rel => exact ⟨k - 1, _, by congr 1; omega, by omega, HQ, rfl⟩
        case measure => simp [RowKit.intOf]; omega
end Go.Proofs.Ytkhgnaakcaghjaa.Tr
