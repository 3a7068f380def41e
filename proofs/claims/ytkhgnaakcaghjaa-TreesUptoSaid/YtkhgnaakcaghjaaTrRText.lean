/- stoleref5.maker's token at a text, a comment: walked. -/
import Derived.Test.YtkhgnaakcaghjaaTrRNode
namespace Go.Proofs.Ytkhgnaakcaghjaa.Tr
open Go.RowKit Go.Proofs.Ytkhgnaakcaghjaa.XA Go.Proofs.YtkhgnaakcaghjaaW.PrintWords Go.Proofs.YtkhgnaakcaghjaaW.PrintLast Go.Proofs.YtkhgnaakcaghjaaW.PrintMore
attribute [local go_sem ↓] Go.wp_at_zero Go.wp_at_succ
set_option linter.unusedVariables false
set_option linter.unusedSimpArgs false

theorem Bd.heap {T : Nat} {w w1 : World} {base b : Nat} {ok : Nat → Prop} {ns : List S38} {op : List Int} (h : Bd T w base b ok ns op) (e : w1.heap = w.heap) : Bd T w1 base b ok ns op := by
  obtain ⟨h0, v0, v1, h1, h2, h3⟩ := h
  exact ⟨h0, v0, v1, by rw [e]; exact h1, Kd.S_step h2 (fun k _ _ => by rw [e]), Kd.R_step h3 (fun k _ _ => by rw [e])⟩
theorem append_empty (a b : ByteArray) (h : b.toList = []) : a ++ b = a := by
  have hb : b.data.toList = [] := by rw [← ByteArray.toList_eq]; exact h
  apply ByteArray.ext
  rw [ByteArray.data_append]
  apply Array.ext'
  rw [Array.toList_append, hb, List.append_nil]
theorem textF_empty (ns : List S38) (op : List Int) (s : ByteArray) (h : s.toList = []) : textF ns op s = ns := by
  unfold textF
  split
  · rename_i l hl
    rw [append_empty _ _ h]
    split
    · rw [List.getLast?_eq_getElem?] at hl
      obtain ⟨h1, h2⟩ := List.getElem?_eq_some_iff.1 hl
      have : (⟨l.f0, l.f1, l.f2, l.f3, l.f4⟩ : S38) = ns[ns.length - 1] := h2.symm
      rw [this, List.set_getElem_self]
    · first | rfl | rw [if_pos h]
  · rfl

set_option maxHeartbeats 3200000 in
set_option maxRecDepth 100000 in
theorem rtext_calls (w0 w : World) (b : Nat) (ns : List S38) (op : List Int) (nm tx : ByteArray) (ats : List S48) (sf : Bool) (A : Option Addr) (c : Nat)
    (hB : Below w0.heap.size w0 w) (hI : Bd 62 w w0.heap.size b (fun _ => True) ns op) (hn : ns ≠ []) (hop : op ≠ []) (hlen : op.length ≤ 4611686018) (hns : ns.length ≤ 4611686017)
    (hsz : ∀ l ∈ ns.getLast?, l.f2.size + tx.size ≤ 9223372036854775807) (hC : Kd.C k48 w A ats.length ats) :
    Calls Try.prog 25 #[.pointer (some ⟨b, 0, none⟩), .agg #[.int .i64 0, .string nm, .string tx, .slice A ats.length c, .bool sf]] w fun e w' => e = .returned (.tuple #[]) ∧
      Bd 62 w' w0.heap.size b (fun _ => True) (textF ns op tx) op ∧ Below w0.heap.size w0 w' := by
  obtain ⟨wa, hwa⟩ : ∃ wa, w.alloc (.cells #[.int .i64 0, .string nm, .string tx, .slice A ats.length c, .bool sf] 41) = wa := ⟨_, rfl⟩
  have hlow : Below w.heap.size w wa := by rw [← hwa]; exact (Below.refl _ _).alloc (Nat.le_refl _) _
  have hga : wa.heap[w.heap.size]? = some (.cells #[.int .i64 0, .string nm, .string tx, .slice A ats.length c, .bool sf] 41 (0, 0)) := by rw [← hwa]; simpa using heap_alloc_new w _
  have hBa : Below w0.heap.size w0 wa := hB.trans (hlow.mono hB.size)
  have hIa := hI.below hlow
  have HBD := Aside0.mk hIa
  have HB := Aside0.mk hBa
  have HCa := Aside0.mk (Kd.C_below hC hlow)
  have HNo := Aside0.mk (fun m (k : Int) s => rnode_calls w0 (wa.drewN m) b (fun _ => False) ns op k 0 ⟨#[]⟩ s (.slice none 0 0) [] (pw_below_drewN hBa m) ((hIa.drewN m).mono (fun _ _ h => h)) (Kd.R_nil _ _ _ _ _) hop (by omega) (by omega))
  obtain ⟨hb0, v0, v1, hb1, hs, hr⟩ := hIa
  obtain ⟨A1, c1, rfl, hc1, hC1⟩ := Kd.R_reads hr
  have hl : 0 < op.length := List.length_pos_iff.2 hop
  obtain ⟨j, hj⟩ : ∃ j : Int, (op.length : Int) - 1 = j := ⟨_, rfl⟩
  obtain ⟨ad, e, hx⟩ := Kd.at_int hC1 j (by omega) (by omega)
  cases e
  have hlr := last_rd op hop
  rw [hj] at hlr
  rw [hlr] at hx
  have hw : IntKind.i64.wrap ((op.length : Int) - 1) = j := by rw [← hj]; exact IntWalk.i64_in _ (by omega)
  have p0 : (0 ≤ j) = True := eq_true (by omega)
  have p1 : (j < (op.length : Int)) = True := eq_true (by omega)
  have hnl : 0 < ns.length := List.length_pos_iff.2 hn
  obtain ⟨g, cap, A3, c3, rfl, hg0, hg1, hg2, x0, x1, x2, x3, x4, hf, hst⟩ := S_at hs (ns.length - 1) (by omega)
  obtain ⟨l, hl'⟩ : ∃ l, ns[ns.length - 1]'(by omega) = l := ⟨_, rfl⟩
  rw [hl'] at x0 x1 x2 x3 x4 hst
  have hget : ns.getLast? = some l := by rw [List.getLast?_eq_getElem?, List.getElem?_eq_getElem (by omega), hl']
  have HGet := Aside0.mk hget
  have hsz' := hsz l (by rw [hget]; rfl)
  have hsz2 : (9223372036854775807 < l.f2.size + tx.size) = False := eq_false (Nat.not_lt.2 hsz')
  clear hsz
  obtain ⟨n, hn'⟩ : ∃ n : Int, (ns.length : Int) - 1 = n := ⟨_, rfl⟩
  have hwn : IntKind.i64.wrap ((ns.length : Int) - 1) = n := by rw [← hn']; exact IntWalk.i64_in _ (by omega)
  have q0 : (0 ≤ n) = True := eq_true (by omega)
  have q1 : (n < (ns.length : Int)) = True := eq_true (by omega)
  have hjn : ns.length - 1 = n.toNat := by omega
  have HJN := Aside0.mk hjn
  rw [hjn] at x0 x1 x2 x3 x4 hst hf
  have y0 : wa.cell? ⟨b, 0, none⟩ = some (.slice (some ⟨g, 0, none⟩) ns.length cap) := (blk_cell hb1 0).trans rfl
  have y1 : wa.cell? ⟨b, 1, none⟩ = some (.slice (some ad) op.length c1) := (blk_cell hb1 1).trans rfl
  obtain ⟨t, htb⟩ : ∃ t, w.heap.size = t := ⟨_, rfl⟩
  rw [htb] at hga
  have z0 : wa.cell? ⟨t, 0, none⟩ = some (.int .i64 0) := (blk_cell hga 0).trans rfl
  have z1 : wa.cell? ⟨t, 1, none⟩ = some (.string nm) := (blk_cell hga 1).trans rfl
  have z2 : wa.cell? ⟨t, 2, none⟩ = some (.string tx) := (blk_cell hga 2).trans rfl
  have z3 : wa.cell? ⟨t, 3, none⟩ = some (.slice A ats.length c) := (blk_cell hga 3).trans rfl
  have HGA := Aside0.mk hga
  have HS := Aside0.mk hs
  have HST := Aside0.mk hst
  have HF := Aside0.mk hf
  have HR := Aside0.mk hr
  have HB0 := Aside0.mk hb0
  have HB1 := Aside0.mk hb1
  have HG0 := Aside0.mk hg0
  have HCC := Aside0.mk hc1
  have HC1 := Aside0.mk hC1
  have HTB := Aside0.mk (show w0.heap.size ≤ t by rw [← htb]; exact hB.size)
  obtain ⟨cells, hcells⟩ := hg2
  have HCE := Aside0.mk hcells
  have HNB := Aside0.mk (show g ≠ b from blk_ne hcells hb1 (by decide))
  have hu1 := Try.underlying38
  have hu2 := Try.underlying41
  clear hI hC hlow hga hBa hB hop hn hb0 hb1 hs hr hC1 hc1 hl hj hlr hnl hg0 hg1 hl' hget hn' hjn hst hf hcells
  go_enter Try.func25, Try.ntmps25
  go_wp2
  clear htb hwa
  by_cases hs : tx.toList = []
  · have hse : tx.toList.isEmpty = true := by rw [hs]; rfl
    have HT := Aside0.mk (textF_empty ns op tx hs)
    clear hs
    go_quiet (fail)
    go_wp2
    refine bodyPost_ret (results_none rfl _ _ _) rfl ?_
    rw [HT.out]
    exact ⟨rfl, HBD.out.drewN _, pw_below_drewN HB.out _⟩
  · have hse : tx.toList.isEmpty = false := by simpa using hs
    have HT := Aside0.mk (show textF ns op tx = _ by unfold textF; rw [HGet.out])
    by_cases k2 : l.f0 = 2
    · rw [k2] at x0
      by_cases k4 : l.f4 = lastOf op
      · rw [k4] at x4
        have HT2 := Aside0.mk (HT.out.trans (if_pos ⟨k2, k4⟩))
        clear k2 k4 HT HNo hs
        have hf2 := HF.out 2
        go_quiet (fail)
        go_wp2
        obtain ⟨wb, hwb⟩ : ∃ wb, wa.drewN nq = wb := ⟨_, rfl⟩
        rw [hwb]
        have y0' : wb.cell? ⟨b, 0, none⟩ = some (.slice (some ⟨g, 0, none⟩) ns.length cap) := by rw [← hwb]; exact y0
        have x2' : wb.cell? ⟨g, n.toNat * 5 + 2, none⟩ = some (.string l.f2) := by rw [← hwb]; exact x2
        have z2' : wb.cell? ⟨t, 2, none⟩ = some (.string tx) := by rw [← hwb]; exact z2
        have f2' : wb.frozen? ⟨g, n.toNat * 5 + 2, none⟩ = false := by rw [← hwb]; exact hf2
        have HWB := Aside0.mk hwb
        clear hwb y0 x0 x1 x2 x3 x4 z0 z1 z2 z3 hf2 y1 hx
        refine start_ (n := 19) (S := fun w' => w'.cell? ⟨b, 0, none⟩ = some (.slice (some ⟨g, 0, none⟩) ns.length cap) ∧ w'.cell? ⟨g, n.toNat * 5 + 2, none⟩ = some (.string l.f2) ∧ w'.cell? ⟨t, 2, none⟩ = some (.string tx)) (ds := [18]) #[false, false, false, false, false, false, false, false, false, false, false, false, false, false, false, false, false, false, false] (by kernel_rfl) rfl rfl ⟨y0', x2', z2'⟩ (fun hHeld => ?_)
        refine pure_ (i := 0) (N := some 53) (v := ?_) (a' := ?_) #[true, false, false, false, false, false, false, false, false, false, false, false, false, false, false, false, false, false, false] rfl rfl (by kernel_rfl) (fun _ _ _ h => h) (Or.inl ⟨by rfl, ?_⟩) ?_ ?_
        rotate_left
        · intro w'
          go_simp
          with_reducible rfl
        rotate_left
        · simp only [Act.put, List.setIfInBounds_toArray, List.set_cons_zero, List.set_cons_succ, i64_w, i32_w]
          rfl
        refine pure_ (i := 1) (N := some 54) (v := ?_) (a' := ?_) #[true, true, false, false, false, false, false, false, false, false, false, false, false, false, false, false, false, false, false] rfl rfl (by kernel_rfl) (fun _ _ _ h => h) (Or.inl ⟨by rfl, ?_⟩) ?_ ?_
        rotate_left
        · intro w'
          go_simp
          with_reducible rfl
        rotate_left
        · simp only [Act.put, List.setIfInBounds_toArray, List.set_cons_zero, List.set_cons_succ, i64_w, i32_w]
          rfl
        refine pure_ (i := 2) (N := some 55) (v := ?_) (a' := ?_) #[true, true, true, false, false, false, false, false, false, false, false, false, false, false, false, false, false, false, false] rfl rfl (by kernel_rfl) (fun _ _ _ h => h) (Or.inl ⟨by rfl, ?_⟩) ?_ ?_
        rotate_left
        · intro w'
          go_simp
          with_reducible rfl
        rotate_left
        · simp only [Act.put, List.setIfInBounds_toArray, List.set_cons_zero, List.set_cons_succ, i64_w, i32_w]
          rfl
        refine pure_ (i := 4) (N := some 57) (v := ?_) (a' := ?_) #[true, true, true, false, true, false, false, false, false, false, false, false, false, false, false, false, false, false, false] rfl rfl (by kernel_rfl) (fun _ _ _ h => h) (Or.inl ⟨by rfl, ?_⟩) ?_ ?_
        rotate_left
        · intro w'
          go_simp
          with_reducible rfl
        rotate_left
        · simp only [Act.put, List.setIfInBounds_toArray, List.set_cons_zero, List.set_cons_succ, i64_w, i32_w]
          rfl
        refine pure_ (i := 5) (N := some 58) (v := ?_) (a' := ?_) #[true, true, true, false, true, true, false, false, false, false, false, false, false, false, false, false, false, false, false] rfl rfl (by kernel_rfl) (fun _ _ _ h => h) (Or.inl ⟨by rfl, ?_⟩) ?_ ?_
        rotate_left
        · intro w'
          go_simp
          with_reducible rfl
        rotate_left
        · simp only [Act.put, List.setIfInBounds_toArray, List.set_cons_zero, List.set_cons_succ, i64_w, i32_w]
          rfl
        refine pure_ (i := 6) (N := some 59) (v := ?_) (a' := ?_) #[true, true, true, false, true, true, true, false, false, false, false, false, false, false, false, false, false, false, false] rfl rfl (by kernel_rfl) (fun _ _ _ h => h) (Or.inl ⟨by rfl, ?_⟩) ?_ ?_
        rotate_left
        · intro w'
          go_simp
          with_reducible rfl
        rotate_left
        · simp only [Act.put, List.setIfInBounds_toArray, List.set_cons_zero, List.set_cons_succ, i64_w, i32_w]
          rfl
        refine pure_ (i := 7) (N := some 60) (v := ?_) (a' := ?_) #[true, true, true, false, true, true, true, true, false, false, false, false, false, false, false, false, false, false, false] rfl rfl (by kernel_rfl) (fun _ _ _ h => h) (Or.inl ⟨by rfl, ?_⟩) ?_ ?_
        rotate_left
        · intro w'
          go_simp
          with_reducible rfl
        rotate_left
        · simp only [Act.put, List.setIfInBounds_toArray, List.set_cons_zero, List.set_cons_succ, i64_w, i32_w]
          rfl
        refine pure_ (i := 9) (N := some 62) (v := ?_) (a' := ?_) #[true, true, true, false, true, true, true, true, false, true, false, false, false, false, false, false, false, false, false] rfl rfl (by kernel_rfl) (fun _ _ _ h => h) (Or.inl ⟨by rfl, ?_⟩) ?_ ?_
        rotate_left
        · intro w'
          go_simp
          with_reducible rfl
        rotate_left
        · simp only [Act.put, List.setIfInBounds_toArray, List.set_cons_zero, List.set_cons_succ, i64_w, i32_w]
          rfl
        refine pure_ (i := 13) (N := some 66) (v := ?_) (a' := ?_) #[true, true, true, false, true, true, true, true, false, true, false, false, false, true, false, false, false, false, false] rfl rfl (by kernel_rfl) (fun _ _ _ h => h) (Or.inl ⟨by rfl, ?_⟩) ?_ ?_
        rotate_left
        · intro w'
          go_simp
          with_reducible rfl
        rotate_left
        · simp only [Act.put, List.setIfInBounds_toArray, List.set_cons_zero, List.set_cons_succ, i64_w, i32_w]
          rfl
        refine take_ (i := 3) (N := some 56) (v := ?_) (a' := ?_) #[true, true, true, true, true, true, true, true, false, true, false, false, false, true, false, false, false, false, false] rfl rfl (by kernel_rfl) (fun _ _ _ h => h) (Or.inl ⟨by rfl, ?_⟩) hHeld ?_ ?_
        rotate_left
        · rintro w' ⟨s0, s1, s2⟩
          go_simp
          with_reducible rfl
        rotate_left
        · simp only [Act.put, List.setIfInBounds_toArray, List.set_cons_zero, List.set_cons_succ, i64_w, i32_w]
          rfl
        refine take_ (i := 8) (N := some 61) (v := ?_) (a' := ?_) #[true, true, true, true, true, true, true, true, true, true, false, false, false, true, false, false, false, false, false] rfl rfl (by kernel_rfl) (fun _ _ _ h => h) (Or.inl ⟨by rfl, ?_⟩) hHeld ?_ ?_
        rotate_left
        · rintro w' ⟨s0, s1, s2⟩
          go_simp
          with_reducible rfl
        rotate_left
        · simp only [Act.put, List.setIfInBounds_toArray, List.set_cons_zero, List.set_cons_succ, i64_w, i32_w]
          rfl
        refine pure_ (i := 10) (N := some 63) (v := ?_) (a' := ?_) #[true, true, true, true, true, true, true, true, true, true, true, false, false, true, false, false, false, false, false] rfl rfl (by kernel_rfl) (fun _ _ _ h => h) (Or.inl ⟨by rfl, ?_⟩) ?_ ?_
        rotate_left
        · intro w'
          go_simp
          with_reducible rfl
        rotate_left
        · simp only [Act.put, List.setIfInBounds_toArray, List.set_cons_zero, List.set_cons_succ, i64_w, i32_w]
          rfl
        refine pure_ (i := 11) (N := some 64) (v := ?_) (a' := ?_) #[true, true, true, true, true, true, true, true, true, true, true, true, false, true, false, false, false, false, false] rfl rfl (by kernel_rfl) (fun _ _ _ h => h) (Or.inl ⟨by rfl, ?_⟩) ?_ ?_
        rotate_left
        · intro w'
          go_simp
          with_reducible rfl
        rotate_left
        · simp only [Act.put, List.setIfInBounds_toArray, List.set_cons_zero, List.set_cons_succ, i64_w, i32_w]
          rfl
        refine take_ (i := 12) (N := some 65) (v := ?_) (a' := ?_) #[true, true, true, true, true, true, true, true, true, true, true, true, true, true, false, false, false, false, false] rfl rfl (by kernel_rfl) (fun _ _ _ h => h) (Or.inl ⟨by rfl, ?_⟩) hHeld ?_ ?_
        rotate_left
        · rintro w' ⟨s0, s1, s2⟩
          go_simp
          with_reducible rfl
        rotate_left
        · simp only [Act.put, List.setIfInBounds_toArray, List.set_cons_zero, List.set_cons_succ, i64_w, i32_w]
          rfl
        refine take_ (i := 14) (N := some 67) (v := ?_) (a' := ?_) #[true, true, true, true, true, true, true, true, true, true, true, true, true, true, true, false, false, false, false] rfl rfl (by kernel_rfl) (fun _ _ _ h => h) (Or.inl ⟨by rfl, ?_⟩) hHeld ?_ ?_
        rotate_left
        · rintro w' ⟨s0, s1, s2⟩
          go_simp
          with_reducible rfl
        rotate_left
        · simp only [Act.put, List.setIfInBounds_toArray, List.set_cons_zero, List.set_cons_succ, i64_w, i32_w]
          rfl
        refine pure_ (i := 15) (N := some 68) (v := ?_) (a' := ?_) #[true, true, true, true, true, true, true, true, true, true, true, true, true, true, true, true, false, false, false] rfl rfl (by kernel_rfl) (fun _ _ _ h => h) (Or.inl ⟨by rfl, ?_⟩) ?_ ?_
        rotate_left
        · intro w'
          go_simp
          with_reducible rfl
        rotate_left
        · simp only [Act.put, List.setIfInBounds_toArray, List.set_cons_zero, List.set_cons_succ, i64_w, i32_w]
          rfl
        refine pure_ (i := 16) (N := some 69) (v := ?_) (a' := ?_) #[true, true, true, true, true, true, true, true, true, true, true, true, true, true, true, true, true, false, false] rfl rfl (by kernel_rfl) (fun _ _ _ h => h) (Or.inl ⟨by rfl, ?_⟩) ?_ ?_
        rotate_left
        · intro w'
          go_simp
          with_reducible rfl
        rotate_left
        · simp only [Act.put, List.setIfInBounds_toArray, List.set_cons_zero, List.set_cons_succ, i64_w, i32_w]
          rfl
        refine pure_ (i := 17) (N := some 70) (v := ?_) (a' := ?_) #[true, true, true, true, true, true, true, true, true, true, true, true, true, true, true, true, true, true, false] rfl rfl (by kernel_rfl) (fun _ _ _ h => h) (Or.inl ⟨by rfl, ?_⟩) ?_ ?_
        rotate_left
        · intro w'
          go_simp
          with_reducible rfl
        rotate_left
        · simp only [Act.put, List.setIfInBounds_toArray, List.set_cons_zero, List.set_cons_succ, i64_w, i32_w]
          rfl
        refine last_ (i := 18) (N := none) #[true, true, true, true, true, true, true, true, true, true, true, true, true, true, true, true, true, true, true] rfl rfl (by kernel_rfl) (by decide) (fun K hK => ?_)
        refine skip_ (w1 := ?_) (by rfl) rfl ?_ ?_
        rotate_left
        · go_simp
          rfl
        refine hK.out _ _ ?_
        clear hK K
        refine done_ (by kernel_rfl) ?_
        go_wp2
        refine bodyPost_ret (results_none rfl _ _ _) rfl ?_
        rw [HT2.out, HJN.out]
        obtain ⟨r1, r2⟩ := HST.out (l.f2 ++ tx)
        have hBb : Below w0.heap.size w0 wb := by rw [← HWB.out]; exact pw_below_drewN HB.out _
        refine ⟨rfl, Bd.heap (w := wa.setCell ⟨g, n.toNat * 5 + 2, none⟩ (.string (l.f2 ++ tx))) ⟨HB0.out, _, _, blk_far HB1.out (Ne.symm HNB.out) _, r1, Kd.R_set HR.out HCE.out (by decide) _ _⟩ (by rw [← HWB.out]; rfl), (hBb.setCell HG0.out _).drew⟩
      · have k4b : (l.f4 == lastOf op) = false := by simpa using k4
        have HT2 := Aside0.mk ((HT.out.trans (if_neg (fun h => k4 h.2))).trans (if_neg hs))
        clear k4 HT hs
        go_quiet (fail)
        go_wp2_with (go_at_call 32; refine (HNo.out _ _ _).mono ?_; rintro e w3 ⟨rfl, hbd, hbe, _⟩)
        go_end0
        rw [HT2.out]
        exact ⟨rfl, hbd, hbe⟩
    · have k2b : (l.f0 == 2) = false := by simpa using k2
      have HT2 := Aside0.mk ((HT.out.trans (if_neg (fun h => k2 h.1))).trans (if_neg hs))
      clear k2 HT hs
      go_quiet (fail)
      go_wp2_with (go_at_call 32; refine (HNo.out _ _ _).mono ?_; rintro e w3 ⟨rfl, hbd, hbe, _⟩)
      go_end0
      rw [HT2.out]
      exact ⟨rfl, hbd, hbe⟩

set_option maxHeartbeats 3200000 in
set_option maxRecDepth 100000 in
theorem rcomm_calls (w0 w : World) (b : Nat) (ns : List S38) (op : List Int) (nm tx : ByteArray) (ats : List S48) (sf : Bool) (A : Option Addr) (c : Nat)
    (hB : Below w0.heap.size w0 w) (hI : Bd 62 w w0.heap.size b (fun _ => True) ns op) (hn : ns ≠ []) (hop : op ≠ []) (hlen : op.length ≤ 4611686018) (hns : ns.length ≤ 4611686017)
    (hC : Kd.C k48 w A ats.length ats) :
    Calls Try.prog 25 #[.pointer (some ⟨b, 0, none⟩), .agg #[.int .i64 3, .string nm, .string tx, .slice A ats.length c, .bool sf]] w fun e w' => e = .returned (.tuple #[]) ∧
      Bd 62 w' w0.heap.size b (fun _ => True) (ns ++ [⟨3, ⟨#[]⟩, tx, [], lastOf op⟩]) op ∧ Below w0.heap.size w0 w' := by
  obtain ⟨wa, hwa⟩ : ∃ wa, w.alloc (.cells #[.int .i64 3, .string nm, .string tx, .slice A ats.length c, .bool sf] 41) = wa := ⟨_, rfl⟩
  have hlow : Below w.heap.size w wa := by rw [← hwa]; exact (Below.refl _ _).alloc (Nat.le_refl _) _
  have hga : wa.heap[w.heap.size]? = some (.cells #[.int .i64 3, .string nm, .string tx, .slice A ats.length c, .bool sf] 41 (0, 0)) := by rw [← hwa]; simpa using heap_alloc_new w _
  have hBa : Below w0.heap.size w0 wa := hB.trans (hlow.mono hB.size)
  have hIa := hI.below hlow
  have HBD := Aside0.mk hIa
  have HB := Aside0.mk hBa
  have HCa := Aside0.mk (Kd.C_below hC hlow)
  have HNo := Aside0.mk (fun m (k : Int) s => rnode_calls w0 (wa.drewN m) b (fun _ => False) ns op k 0 ⟨#[]⟩ s (.slice none 0 0) [] (pw_below_drewN hBa m) ((hIa.drewN m).mono (fun _ _ h => h)) (Kd.R_nil _ _ _ _ _) hop (by omega) (by omega))
  obtain ⟨hb0, v0, v1, hb1, hs, hr⟩ := hIa
  obtain ⟨A1, c1, rfl, hc1, hC1⟩ := Kd.R_reads hr
  have hl : 0 < op.length := List.length_pos_iff.2 hop
  obtain ⟨j, hj⟩ : ∃ j : Int, (op.length : Int) - 1 = j := ⟨_, rfl⟩
  obtain ⟨ad, e, hx⟩ := Kd.at_int hC1 j (by omega) (by omega)
  cases e
  have hlr := last_rd op hop
  rw [hj] at hlr
  rw [hlr] at hx
  have hw : IntKind.i64.wrap ((op.length : Int) - 1) = j := by rw [← hj]; exact IntWalk.i64_in _ (by omega)
  have p0 : (0 ≤ j) = True := eq_true (by omega)
  have p1 : (j < (op.length : Int)) = True := eq_true (by omega)
  have hnl : 0 < ns.length := List.length_pos_iff.2 hn
  obtain ⟨g, cap, A3, c3, rfl, hg0, hg1, hg2, x0, x1, x2, x3, x4, hf, hst⟩ := S_at hs (ns.length - 1) (by omega)
  obtain ⟨l, hl'⟩ : ∃ l, ns[ns.length - 1]'(by omega) = l := ⟨_, rfl⟩
  rw [hl'] at x0 x1 x2 x3 x4 hst
  have hget : ns.getLast? = some l := by rw [List.getLast?_eq_getElem?, List.getElem?_eq_getElem (by omega), hl']
  have HGet := Aside0.mk hget
  obtain ⟨n, hn'⟩ : ∃ n : Int, (ns.length : Int) - 1 = n := ⟨_, rfl⟩
  have hwn : IntKind.i64.wrap ((ns.length : Int) - 1) = n := by rw [← hn']; exact IntWalk.i64_in _ (by omega)
  have q0 : (0 ≤ n) = True := eq_true (by omega)
  have q1 : (n < (ns.length : Int)) = True := eq_true (by omega)
  have hjn : ns.length - 1 = n.toNat := by omega
  have HJN := Aside0.mk hjn
  rw [hjn] at x0 x1 x2 x3 x4 hst hf
  have y0 : wa.cell? ⟨b, 0, none⟩ = some (.slice (some ⟨g, 0, none⟩) ns.length cap) := (blk_cell hb1 0).trans rfl
  have y1 : wa.cell? ⟨b, 1, none⟩ = some (.slice (some ad) op.length c1) := (blk_cell hb1 1).trans rfl
  obtain ⟨t, htb⟩ : ∃ t, w.heap.size = t := ⟨_, rfl⟩
  rw [htb] at hga
  have z0 : wa.cell? ⟨t, 0, none⟩ = some (.int .i64 3) := (blk_cell hga 0).trans rfl
  have z1 : wa.cell? ⟨t, 1, none⟩ = some (.string nm) := (blk_cell hga 1).trans rfl
  have z2 : wa.cell? ⟨t, 2, none⟩ = some (.string tx) := (blk_cell hga 2).trans rfl
  have z3 : wa.cell? ⟨t, 3, none⟩ = some (.slice A ats.length c) := (blk_cell hga 3).trans rfl
  have HGA := Aside0.mk hga
  have HS := Aside0.mk hs
  have HST := Aside0.mk hst
  have HF := Aside0.mk hf
  have HR := Aside0.mk hr
  have HB0 := Aside0.mk hb0
  have HB1 := Aside0.mk hb1
  have HG0 := Aside0.mk hg0
  have HCC := Aside0.mk hc1
  have HC1 := Aside0.mk hC1
  have HTB := Aside0.mk (show w0.heap.size ≤ t by rw [← htb]; exact hB.size)
  obtain ⟨cells, hcells⟩ := hg2
  have HCE := Aside0.mk hcells
  have HNB := Aside0.mk (show g ≠ b from blk_ne hcells hb1 (by decide))
  have hu1 := Try.underlying38
  have hu2 := Try.underlying41
  clear hI hC hlow hga hBa hB hop hn hb0 hb1 hs hr hC1 hc1 hl hj hlr hnl hg0 hg1 hl' hget hn' hjn hst hf hcells
  go_enter Try.func25, Try.ntmps25
  go_wp2
  clear htb hwa
  go_quiet (fail)
  go_wp2_with (go_at_call 32; refine (HNo.out _ _ _).mono ?_; rintro e w3 ⟨rfl, hbd, hbe, _⟩)
  go_end0
  exact ⟨rfl, hbd, hbe⟩
end Go.Proofs.Ytkhgnaakcaghjaa.Tr
