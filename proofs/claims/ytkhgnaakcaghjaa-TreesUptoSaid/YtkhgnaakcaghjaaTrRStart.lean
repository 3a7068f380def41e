/- stoleref5.maker's token at a start: walked. -/
import Derived.Test.YtkhgnaakcaghjaaTrRText
namespace Go.Proofs.Ytkhgnaakcaghjaa.Tr
open Go.RowKit Go.Proofs.Ytkhgnaakcaghjaa.XA Go.Proofs.YtkhgnaakcaghjaaW.PrintWords Go.Proofs.YtkhgnaakcaghjaaW.PrintLast Go.Proofs.YtkhgnaakcaghjaaW.PrintMore
attribute [local go_sem ↓] Go.wp_at_zero Go.wp_at_succ
set_option linter.unusedVariables false
set_option linter.unusedSimpArgs false

set_option maxHeartbeats 3200000 in
set_option maxRecDepth 100000 in
theorem rstart_calls (w0 w : World) (b : Nat) (ns : List S38) (op : List Int) (nm tx : ByteArray) (ats : List S48) (sf : Bool) (A : Option Addr) (c : Nat)
    (hB : Below w0.heap.size w0 w) (hI : Bd 62 w w0.heap.size b (fun _ => True) ns op) (hn : ns ≠ []) (hop : op ≠ []) (hlen : op.length ≤ 4611686018) (hns : ns.length ≤ 4611686017)
    (hl4 : ats.length ≤ 4398046511103) (hC : Kd.C k48 w A ats.length ats) :
    Calls Try.prog 25 #[.pointer (some ⟨b, 0, none⟩), .agg #[.int .i64 1, .string nm, .string tx, .slice A ats.length c, .bool sf]] w fun e w' => e = .returned (.tuple #[]) ∧
      Bd 62 w' w0.heap.size b (fun _ => True) (ns ++ [⟨1, nm, ⟨#[]⟩, ats, lastOf op⟩]) (startOp ns op nm) ∧ Below w0.heap.size w0 w' := by
  obtain ⟨wa, hwa⟩ : ∃ wa, w.alloc (.cells #[.int .i64 1, .string nm, .string tx, .slice A ats.length c, .bool sf] 41) = wa := ⟨_, rfl⟩
  have hlow : Below w.heap.size w wa := by rw [← hwa]; exact (Below.refl _ _).alloc (Nat.le_refl _) _
  have hga : wa.heap[w.heap.size]? = some (.cells #[.int .i64 1, .string nm, .string tx, .slice A ats.length c, .bool sf] 41 (0, 0)) := by rw [← hwa]; simpa using heap_alloc_new w _
  have hBa : Below w0.heap.size w0 wa := hB.trans (hlow.mono hB.size)
  have hIa := hI.below hlow
  have HBD := Aside0.mk hIa
  have HB := Aside0.mk hBa
  have HCa := Aside0.mk (Kd.C_below hC hlow)
  have hno0 := fun (m : Nat) (w3 : World) (va : Value) (hb3 : Below (wa.drewN m).heap.size (wa.drewN m) w3) (hva : Kd.R k48 48 w3 (wa.drewN m).heap.size (fun _ => True) va ats) =>
    rnode_calls w0 w3 b (fun k => (wa.drewN m).heap.size ≤ k) ns op 1 0 nm ⟨#[]⟩ va ats ((pw_below_drewN hBa m).trans (hb3.mono hBa.size)) (((hIa.drewN m).old hb3).mono (fun k hk => Nat.not_le.2 hk.2)) (R_fresh hva hBa.size) hop (by omega) (by omega)
  obtain ⟨ns1, hn1⟩ : ∃ ns1 : List S38, ns ++ [⟨1, nm, ⟨#[]⟩, ats, lastOf op⟩] = ns1 := ⟨_, rfl⟩
  have hn1l : ns1.length = ns.length + 1 := by rw [← hn1]; simp
  have HN1L := Aside0.mk hn1l
  rw [hn1] at hno0 ⊢
  have HNo := Aside0.mk hno0
  have HL4 := Aside0.mk hl4
  clear hno0 hn1 hn1l hl4
  obtain ⟨hb0, v0, v1, hb1, hs, hr⟩ := hIa
  obtain ⟨A1, c1, rfl, hc1, hC1⟩ := Kd.R_reads hr
  have hl : 0 < op.length := List.length_pos_iff.2 hop
  obtain ⟨j, hj⟩ : ∃ j : Int, (op.length : Int) - 1 = j := ⟨_, rfl⟩
  obtain ⟨ad, e, hx⟩ := Kd.at_int hC1 j (by omega) (by omega)
  cases e
  have hlr := last_rd op hop
  rw [hj] at hlr
  rw [hlr] at hx
  have hw : IntKind.i64.wrap ((op.length : Int) - 1) = j := by rw [← hj]; exact IntWalk.i64_in _ (by omega)
  have p0 : (0 ≤ j) = True := eq_true (by omega)
  have p1 : (j < (op.length : Int)) = True := eq_true (by omega)
  have hnl : 0 < ns.length := List.length_pos_iff.2 hn
  obtain ⟨g, cap, A3, c3, rfl, hg0, hg1, hg2, x0, x1, x2, x3, x4, hf, hst⟩ := S_at hs (ns.length - 1) (by omega)
  obtain ⟨l, hl'⟩ : ∃ l, ns[ns.length - 1]'(by omega) = l := ⟨_, rfl⟩
  rw [hl'] at x0 x1 x2 x3 x4 hst
  have hget : ns.getLast? = some l := by rw [List.getLast?_eq_getElem?, List.getElem?_eq_getElem (by omega), hl']
  have HGet := Aside0.mk hget
  obtain ⟨n, hn'⟩ : ∃ n : Int, (ns.length : Int) - 1 = n := ⟨_, rfl⟩
  have hwn : IntKind.i64.wrap ((ns.length : Int) - 1) = n := by rw [← hn']; exact IntWalk.i64_in _ (by omega)
  have q0 : (0 ≤ n) = True := eq_true (by omega)
  have q1 : (n < (ns.length : Int)) = True := eq_true (by omega)
  have hjn : ns.length - 1 = n.toNat := by omega
  have HJN := Aside0.mk hjn
  rw [hjn] at x0 x1 x2 x3 x4 hst hf
  have y0 : wa.cell? ⟨b, 0, none⟩ = some (.slice (some ⟨g, 0, none⟩) ns.length cap) := (blk_cell hb1 0).trans rfl
  have y1 : wa.cell? ⟨b, 1, none⟩ = some (.slice (some ad) op.length c1) := (blk_cell hb1 1).trans rfl
  obtain ⟨t, htb⟩ : ∃ t, w.heap.size = t := ⟨_, rfl⟩
  rw [htb] at hga
  have z0 : wa.cell? ⟨t, 0, none⟩ = some (.int .i64 1) := (blk_cell hga 0).trans rfl
  have z1 : wa.cell? ⟨t, 1, none⟩ = some (.string nm) := (blk_cell hga 1).trans rfl
  have z2 : wa.cell? ⟨t, 2, none⟩ = some (.string tx) := (blk_cell hga 2).trans rfl
  have z3 : wa.cell? ⟨t, 3, none⟩ = some (.slice A ats.length c) := (blk_cell hga 3).trans rfl
  have HGA := Aside0.mk hga
  have HS := Aside0.mk hs
  have HST := Aside0.mk hst
  have HF := Aside0.mk hf
  have HR := Aside0.mk hr
  have HB0 := Aside0.mk hb0
  have HB1 := Aside0.mk hb1
  have HG0 := Aside0.mk hg0
  have HCC := Aside0.mk hc1
  have HC1 := Aside0.mk hC1
  have HTB := Aside0.mk (show w0.heap.size ≤ t by rw [← htb]; exact hB.size)
  obtain ⟨cells, hcells⟩ := hg2
  have HCE := Aside0.mk hcells
  have HNB := Aside0.mk (show g ≠ b from blk_ne hcells hb1 (by decide))
  have hu1 := Try.underlying38
  have hu2 := Try.underlying41
  clear hI hC hlow hga hBa hB hop hn hb0 hb1 hs hr hC1 hc1 hl hj hlr hnl hg0 hg1 hl' hget hn' hjn hst hf hcells
  go_enter Try.func25, Try.ntmps25
  go_wp2
  clear htb hwa
  go_quiet (fail)
  go_wp2
  obtain ⟨wd, hwd⟩ : ∃ wd, wa.drewN nq = wd := ⟨_, rfl⟩
  have hno := HNo.out nq
  have HCd := Aside0.mk (Kd.C_drewN HCa.out nq)
  rw [hwd] at hno HCd ⊢
  have HNo' := Aside0.mk hno
  have e1 : wd.cell? ⟨t, 1, none⟩ = some (.string nm) := by rw [← hwd]; exact z1
  have e3 : wd.cell? ⟨t, 3, none⟩ = some (.slice A ats.length c) := by rw [← hwd]; exact z3
  have HGD := Aside0.mk (show wd.heap[t]? = some (.cells #[.int .i64 1, .string nm, .string tx, .slice A ats.length c, .bool sf] 41 (0, 0)) by rw [← hwd]; exact HGA.out)
  have HBd := Aside0.mk (show Below w0.heap.size w0 wd by rw [← hwd]; exact pw_below_drewN HB.out _)
  have HO := Aside0.mk (show Kd.R k48 48 (wd.alloc (.cells #[] 48)).drew wd.heap.size (fun _ => True) (.slice (some ⟨wd.heap.size, 0, none⟩) 0 0) [] from Kd.R_drew ⟨fun _ _ => trivial, OwnRow.lit wd wd.heap.size (Reps.none _ _) (Nat.le_refl _) (by decide)⟩)
  have HBL := Aside0.mk (show Below wd.heap.size wd (wd.alloc (.cells #[] 48)).drew from ((Below.refl _ _).alloc (Nat.le_refl _) _).drew)
  clear hno hwd z0 z1 z2 z3 x0 x1 x2 x3 x4 y0 y1 hx HNo HCa
  refine start_ (n := 9) (S := fun w' => w'.cell? ⟨t, 1, none⟩ = some (.string nm) ∧ w'.cell? ⟨t, 3, none⟩ = some (.slice A ats.length c)) (ds := [8]) #[false, false, false, false, false, false, false, false, false] (by kernel_rfl) rfl rfl ⟨e1, e3⟩ (fun hHeld => ?_)
  refine pure_ (i := 0) (N := some 85) (v := ?_) (a' := ?_) #[true, false, false, false, false, false, false, false, false] rfl rfl (by kernel_rfl) (fun _ _ _ h => h) (Or.inl ⟨by rfl, ?_⟩) ?_ ?_
  rotate_left
  · intro w'
    go_simp
    with_reducible rfl
  rotate_left
  · simp only [Act.put, List.setIfInBounds_toArray, List.set_cons_zero, List.set_cons_succ, i64_w, i32_w]
    rfl
  refine pure_ (i := 1) (N := some 86) (v := ?_) (a' := ?_) #[true, true, false, false, false, false, false, false, false] rfl rfl (by kernel_rfl) (fun _ _ _ h => h) (Or.inl ⟨by rfl, ?_⟩) ?_ ?_
  rotate_left
  · intro w'
    go_simp
    with_reducible rfl
  rotate_left
  · simp only [Act.put, List.setIfInBounds_toArray, List.set_cons_zero, List.set_cons_succ, i64_w, i32_w]
    rfl
  refine pure_ (i := 4) (N := some 89) (v := ?_) (a' := ?_) #[true, true, false, false, true, false, false, false, false] rfl rfl (by kernel_rfl) (fun _ _ _ h => h) (Or.inl ⟨by rfl, ?_⟩) ?_ ?_
  rotate_left
  · intro w'
    go_simp
    with_reducible rfl
  rotate_left
  · simp only [Act.put, List.setIfInBounds_toArray, List.set_cons_zero, List.set_cons_succ, i64_w, i32_w]
    rfl
  refine take_ (i := 2) (N := some 87) (v := ?_) (a' := ?_) #[true, true, true, false, true, false, false, false, false] rfl rfl (by kernel_rfl) (fun _ _ _ h => h) (Or.inl ⟨by rfl, ?_⟩) hHeld ?_ ?_
  rotate_left
  · rintro w' ⟨s0, s1⟩
    go_simp
    with_reducible rfl
  rotate_left
  · simp only [Act.put, List.setIfInBounds_toArray, List.set_cons_zero, List.set_cons_succ, i64_w, i32_w]
    rfl
  refine take_ (i := 5) (N := some 90) (v := ?_) (a' := ?_) #[true, true, true, false, true, true, false, false, false] rfl rfl (by kernel_rfl) (fun _ _ _ h => h) (Or.inl ⟨by rfl, ?_⟩) hHeld ?_ ?_
  rotate_left
  · rintro w' ⟨s0, s1⟩
    go_simp
    with_reducible rfl
  rotate_left
  · simp only [Act.put, List.setIfInBounds_toArray, List.set_cons_zero, List.set_cons_succ, i64_w, i32_w]
    rfl
  refine one_ (i := 3) (N := some 88) #[true, true, true, true, true, true, false, false, false] rfl rfl (by kernel_rfl) (by decide) (fun K hK => ?_)
  refine value_ (w1 := ?_) (v := ?_) (by rfl) rfl ?_ ?_
  rotate_left 2
  · go_simp
    constructor
    · rfl
    · rfl
  refine hK.out _ _ ⟨(cell_alloc (w := wd.drew) e1 _), (cell_alloc (w := wd.drew) e3 _)⟩ (fun hHeld => ?_)
  clear hK K
  refine norm_ (a' := ?_) ?_ ?_
  rotate_left
  · show Act.put _ (some 88) _ = _
    simp only [Act.put, List.setIfInBounds_toArray, List.set_cons_zero, List.set_cons_succ, i64_w, i32_w]
    rfl
  refine one_ (i := 6) (N := some 91) #[true, true, true, true, true, true, true, false, false] rfl rfl (by kernel_rfl) (by decide) (fun K hK => ?_)
  refine Kd.R_append_rows_step k48 (w0 := wd) (W := (wd.alloc (.cells #[] 48)).drew) wd.heap.size (by rfl) (.tmp 88) (.tmp 90) 36 48 (.agg #[(.string ⟨#[]⟩), (.string ⟨#[]⟩)]) 32 (by rfl) Try.underlying36 info48 (by rfl) (by decide) (by decide) (.slice (some ⟨wd.heap.size, 0, none⟩) 0 0) [] ats A ats.length c (fun _ => True) (fun _ => False) (by rfl) (by rfl) HO.out (Kd.C_drew (Kd.C_alloc HCd.out _)) (fun _ _ h => h) (fun _ h => h.elim) (fun _ _ => trivial) HBL.out HBL.out.size (by have := HL4.out; simp only [List.length_nil]; omega) ?_
  intro v9 w9 hR9 hB9 hgr hat
  rw [List.nil_append] at hR9
  obtain ⟨A9, c9, e9⟩ := Kd.R_slice hR9
  subst e9
  have b9 := (hB9.block t (blk_lt HGD.out)).trans HGD.out
  refine hK.out _ _ ⟨((blk_cell b9 1).trans rfl), ((blk_cell b9 3).trans rfl)⟩ (fun hHeld => ?_)
  clear hK K
  refine norm_ (a' := ?_) ?_ ?_
  rotate_left
  · show Act.put _ (some 91) _ = _
    simp only [Act.put, List.setIfInBounds_toArray, List.set_cons_zero, List.set_cons_succ, i64_w, i32_w]
    rfl
  refine pure_ (i := 7) (N := some 92) (v := ?_) (a' := ?_) #[true, true, true, true, true, true, true, true, false] rfl rfl (by kernel_rfl) (fun _ _ _ h => h) (Or.inl ⟨by rfl, ?_⟩) ?_ ?_
  rotate_left
  · intro w'
    go_simp
    with_reducible rfl
  rotate_left
  · simp only [Act.put, List.setIfInBounds_toArray, List.set_cons_zero, List.set_cons_succ, i64_w, i32_w]
    rfl
  refine last_ (i := 8) (N := some 93) #[true, true, true, true, true, true, true, true, true] rfl rfl (by kernel_rfl) (by decide) (fun K hK => ?_)
  refine goes_ Try.func32 (by kernel_rfl) rfl #[.pointer (some ⟨b, 0, none⟩), .agg #[.int .i64 1, .string nm, .string ⟨#[]⟩, .slice A9 ats.length c9, .int .i64 0]] (by rfl) rfl rfl (by simp only [List.map_toArray, List.map_cons, List.map_nil]; rfl) ?_
  with_reducible refine (HNo'.out w9 _ hB9 hR9).mono ?_
  rintro e w4 ⟨rfl, hbd, hb4, hsm⟩
  refine ⟨_, rfl, ?_⟩
  refine hK.out _ _ ?_
  clear hK K
  refine norm_ (a' := ?_) ?_ ?_
  rotate_left
  · show Act.put _ (some 93) _ = _
    simp only [Act.put, List.setIfInBounds_toArray, List.set_cons_zero, List.set_cons_succ, i64_w, i32_w]
    rfl
  refine done_ (by kernel_rfl) ?_
  have g1 : w4.cell? ⟨t, 1, none⟩ = some (.string nm) := (blk_cell ((hsm t _ _ b9 (by decide) (by decide) (by decide)).trans b9) 1).trans rfl
  have HK := Aside0.mk (elem_calls nm w4)
  have HB4 := Aside0.mk hb4
  have HBD4 := Aside0.mk hbd
  clear e1 e3 HNo' hb4 hB9 hR9 hgr hat b9 hsm hHeld HBD HO HBL
  obtain ⟨hb0, v0, v1, hb1, hs, hr⟩ := hbd
  obtain ⟨A0, c0, rfl⟩ := Kd.S_slice hs
  obtain ⟨A1, c1', rfl⟩ := Kd.R_slice hr
  have y0 : w4.cell? ⟨b, 0, none⟩ = some (.slice A0 ns1.length c0) := (blk_cell hb1 0).trans rfl
  have y1 : w4.cell? ⟨b, 1, none⟩ = some (.slice A1 op.length c1') := (blk_cell hb1 1).trans rfl
  have HB0' := Aside0.mk hb0
  have HB1' := Aside0.mk hb1
  have HS' := Aside0.mk hs
  have HR' := Aside0.mk hr
  clear hb0 hb1 hs hr HS HST HF HR HB1 HCC HC1 HCE HNB HGet HGA HGD
  by_cases k1 : kindOf nm = 1
  · rw [k1] at HK
    have HO := Aside0.mk (show startOp ns op nm = op by unfold startOp; rw [if_neg (fun h => h.1 k1)])
    clear k1
    go_wp2_with (go_at_call 33; refine HK.out.mono ?_; rintro e w5 ⟨rfl, ⟨m, rfl⟩⟩)
    go_end0
    rw [HO.out]
    exact ⟨rfl, HBD4.out.drewN _, pw_below_drewN HB4.out _⟩
  · have k1b : (kindOf nm == 1) = false := by simpa using k1
    have k1c : (kindOf nm != 1) = true := by simpa using k1
    by_cases k2 : op.length ≤ 32
    · have k2b : (op.length : Int) ≤ 32 := by omega
      have HO := Aside0.mk (show startOp ns op nm = op ++ [(ns.length : Int)] by unfold startOp; rw [if_pos ⟨k1, k2⟩])
      clear k1
      go_wp2_with (go_at_call 33; refine HK.out.mono ?_; rintro e w5 ⟨rfl, ⟨m, rfl⟩⟩)
      obtain ⟨w5, h5⟩ : ∃ w5, w4.drewN m = w5 := ⟨_, rfl⟩
      rw [h5]
      replace y0 : w5.cell? ⟨b, 0, none⟩ = some (.slice A0 ns1.length c0) := by rw [← h5]; exact y0
      replace y1 : w5.cell? ⟨b, 1, none⟩ = some (.slice A1 op.length c1') := by rw [← h5]; exact y1
      have HB1 := Aside0.mk (show w5.heap[b]? = some (.cells #[.slice A0 ns1.length c0, .slice A1 op.length c1'] 62 (0, 0)) by rw [← h5]; exact HB1'.out)
      have HS := Aside0.mk (show Kd.S k38 38 w5 w0.heap.size (fun _ => True) (.slice A0 ns1.length c0) ns1 by rw [← h5]; exact Kd.S_drewN HS'.out m)
      have HR := Aside0.mk (show Kd.R (Kd.int .i64) 3 w5 w0.heap.size (fun _ => True) (.slice A1 op.length c1') op by rw [← h5]; exact Kd.R_drewN HR'.out m)
      have HB5 := Aside0.mk (show Below w0.heap.size w0 w5 by rw [← h5]; exact pw_below_drewN HB4.out m)
      have HBV := Aside0.mk (show some b ≠ (Value.slice A1 op.length c1').ownBlock from Kd.R_ne HR.out HB1.out (by decide))
      have hw5 : IntKind.i64.wrap ((ns1.length : Int) - 1) = (ns.length : Int) := by rw [HN1L.out, show ((ns.length + 1 : Nat) : Int) - 1 = (ns.length : Int) by omega]; exact IntWalk.i64_in _ (by omega)
      clear h5 HB1' HS' HR' HB4 HBD4 g1 HK k1b k1c k2b hw hwn
      refine start_ (n := 16) (S := fun w' => w'.cell? ⟨b, 0, none⟩ = some (.slice A0 ns1.length c0) ∧ w'.cell? ⟨b, 1, none⟩ = some (.slice A1 op.length c1')) (ds := [15]) #[false, false, false, false, false, false, false, false, false, false, false, false, false, false, false, false] (by kernel_rfl) rfl rfl ⟨y0, y1⟩ (fun hHeld => ?_)
      refine pure_ (i := 0) (N := some 106) (v := ?_) (a' := ?_) #[true, false, false, false, false, false, false, false, false, false, false, false, false, false, false, false] rfl rfl (by kernel_rfl) (fun _ _ _ h => h) (Or.inl ⟨by rfl, ?_⟩) ?_ ?_
      rotate_left
      · intro w'
        go_simp
        with_reducible rfl
      rotate_left
      · simp only [Act.put, List.setIfInBounds_toArray, List.set_cons_zero, List.set_cons_succ, i64_w, i32_w]
        rfl
      refine pure_ (i := 1) (N := some 107) (v := ?_) (a' := ?_) #[true, true, false, false, false, false, false, false, false, false, false, false, false, false, false, false] rfl rfl (by kernel_rfl) (fun _ _ _ h => h) (Or.inl ⟨by rfl, ?_⟩) ?_ ?_
      rotate_left
      · intro w'
        go_simp
        with_reducible rfl
      rotate_left
      · simp only [Act.put, List.setIfInBounds_toArray, List.set_cons_zero, List.set_cons_succ, i64_w, i32_w]
        rfl
      refine pure_ (i := 2) (N := some 108) (v := ?_) (a' := ?_) #[true, true, true, false, false, false, false, false, false, false, false, false, false, false, false, false] rfl rfl (by kernel_rfl) (fun _ _ _ h => h) (Or.inl ⟨by rfl, ?_⟩) ?_ ?_
      rotate_left
      · intro w'
        go_simp
        with_reducible rfl
      rotate_left
      · simp only [Act.put, List.setIfInBounds_toArray, List.set_cons_zero, List.set_cons_succ, i64_w, i32_w]
        rfl
      refine pure_ (i := 3) (N := some 109) (v := ?_) (a' := ?_) #[true, true, true, true, false, false, false, false, false, false, false, false, false, false, false, false] rfl rfl (by kernel_rfl) (fun _ _ _ h => h) (Or.inl ⟨by rfl, ?_⟩) ?_ ?_
      rotate_left
      · intro w'
        go_simp
        with_reducible rfl
      rotate_left
      · simp only [Act.put, List.setIfInBounds_toArray, List.set_cons_zero, List.set_cons_succ, i64_w, i32_w]
        rfl
      refine pure_ (i := 5) (N := some 111) (v := ?_) (a' := ?_) #[true, true, true, true, false, true, false, false, false, false, false, false, false, false, false, false] rfl rfl (by kernel_rfl) (fun _ _ _ h => h) (Or.inl ⟨by rfl, ?_⟩) ?_ ?_
      rotate_left
      · intro w'
        go_simp
        with_reducible rfl
      rotate_left
      · simp only [Act.put, List.setIfInBounds_toArray, List.set_cons_zero, List.set_cons_succ, i64_w, i32_w]
        rfl
      refine pure_ (i := 6) (N := some 112) (v := ?_) (a' := ?_) #[true, true, true, true, false, true, true, false, false, false, false, false, false, false, false, false] rfl rfl (by kernel_rfl) (fun _ _ _ h => h) (Or.inl ⟨by rfl, ?_⟩) ?_ ?_
      rotate_left
      · intro w'
        go_simp
        with_reducible rfl
      rotate_left
      · simp only [Act.put, List.setIfInBounds_toArray, List.set_cons_zero, List.set_cons_succ, i64_w, i32_w]
        rfl
      refine pure_ (i := 7) (N := some 113) (v := ?_) (a' := ?_) #[true, true, true, true, false, true, true, true, false, false, false, false, false, false, false, false] rfl rfl (by kernel_rfl) (fun _ _ _ h => h) (Or.inl ⟨by rfl, ?_⟩) ?_ ?_
      rotate_left
      · intro w'
        go_simp
        with_reducible rfl
      rotate_left
      · simp only [Act.put, List.setIfInBounds_toArray, List.set_cons_zero, List.set_cons_succ, i64_w, i32_w]
        rfl
      refine take_ (i := 4) (N := some 110) (v := ?_) (a' := ?_) #[true, true, true, true, true, true, true, true, false, false, false, false, false, false, false, false] rfl rfl (by kernel_rfl) (fun _ _ _ h => h) (Or.inl ⟨by rfl, ?_⟩) hHeld ?_ ?_
      rotate_left
      · rintro w' ⟨s0, s1⟩
        go_simp
        with_reducible rfl
      rotate_left
      · simp only [Act.put, List.setIfInBounds_toArray, List.set_cons_zero, List.set_cons_succ, i64_w, i32_w]
        rfl
      refine take_ (i := 8) (N := some 114) (v := ?_) (a' := ?_) #[true, true, true, true, true, true, true, true, true, false, false, false, false, false, false, false] rfl rfl (by kernel_rfl) (fun _ _ _ h => h) (Or.inl ⟨by rfl, ?_⟩) hHeld ?_ ?_
      rotate_left
      · rintro w' ⟨s0, s1⟩
        go_simp
        with_reducible rfl
      rotate_left
      · simp only [Act.put, List.setIfInBounds_toArray, List.set_cons_zero, List.set_cons_succ, i64_w, i32_w]
        rfl
      refine pure_ (i := 9) (N := some 115) (v := ?_) (a' := ?_) #[true, true, true, true, true, true, true, true, true, true, false, false, false, false, false, false] rfl rfl (by kernel_rfl) (fun _ _ _ h => h) (Or.inl ⟨by rfl, ?_⟩) ?_ ?_
      rotate_left
      · intro w'
        go_simp
        with_reducible rfl
      rotate_left
      · simp only [Act.put, List.setIfInBounds_toArray, List.set_cons_zero, List.set_cons_succ, i64_w, i32_w]
        rfl
      refine pure_ (i := 10) (N := some 116) (v := ?_) (a' := ?_) #[true, true, true, true, true, true, true, true, true, true, true, false, false, false, false, false] rfl rfl (by kernel_rfl) (fun _ _ _ h => h) (Or.inl ⟨by rfl, ?_⟩) ?_ ?_
      rotate_left
      · intro w'
        go_simp
        with_reducible rfl
      rotate_left
      · simp only [Act.put, List.setIfInBounds_toArray, List.set_cons_zero, List.set_cons_succ, i64_w, i32_w]
        rfl
      refine one_ (i := 11) (N := some 117) #[true, true, true, true, true, true, true, true, true, true, true, true, false, false, false, false] rfl rfl (by kernel_rfl) (by decide) (fun K hK => ?_)
      refine value_ (w1 := ?_) (v := ?_) (by rfl) rfl ?_ ?_
      rotate_left 2
      · go_simp
        constructor
        · rfl
        · rfl
      refine hK.out _ _ ⟨(cell_alloc (w := w5.drew) y0 _), (cell_alloc (w := w5.drew) y1 _)⟩ (fun hHeld => ?_)
      clear hK K
      refine norm_ (a' := ?_) ?_ ?_
      rotate_left
      · show Act.put _ (some 117) _ = _
        simp only [Act.put, List.setIfInBounds_toArray, List.set_cons_zero, List.set_cons_succ, i64_w, i32_w]
        rfl
      refine one_ (i := 12) (N := some 118) #[true, true, true, true, true, true, true, true, true, true, true, true, true, false, false, false] rfl rfl (by kernel_rfl) (by decide) (fun K hK => ?_)
      refine Kd.R_append_step (Kd.int .i64) (w0 := w0) (W := w5.drew) w0.heap.size (by rfl) (.tmp 110) (.tmp 117) 39 3 (.int .i64 0) 8 (by rfl) Try.underlying39 infoInt (by rfl) (by decide) (by decide) (.slice A1 op.length c1') op (ns.length : Int) [.int .i64 (ns.length : Int)] (fun _ => True) (fun _ => False) (by rfl) (by rfl) rfl (fun q hq => hq.elim) (fun _ _ => trivial) (Kd.R_drew HR.out) (below_drew HB5.out) (below_drew HB5.out).size (by omega) ?_
      intro v9 w9 hR9 hB9 hgr hat
      obtain ⟨A9, c9, e9⟩ := Kd.R_slice hR9
      rw [List.length_append, List.length_singleton] at e9
      subst e9
      have b9 : w9.heap[b]? = some (.cells #[.slice A0 ns1.length c0, .slice A1 op.length c1'] 62 (0, 0)) := blk_grown (w := w5.drew) HB1.out hgr HBV.out
      have z0 : w9.cell? ⟨b, 0, none⟩ = some (.slice A0 ns1.length c0) := (blk_cell b9 0).trans rfl
      have z1 : w9.cell? ⟨b, 1, none⟩ = some (.slice A1 op.length c1') := (blk_cell b9 1).trans rfl
      have f9 : w9.frozen? ⟨b, 1, none⟩ = false := blk_frozen b9 1
      refine hK.out _ _ ⟨z0, z1⟩ (fun hHeld => ?_)
      clear hK K
      refine norm_ (a' := ?_) ?_ ?_
      rotate_left
      · show Act.put _ (some 118) _ = _
        simp only [Act.put, List.setIfInBounds_toArray, List.set_cons_zero, List.set_cons_succ, i64_w, i32_w]
        rfl
      refine pure_ (i := 13) (N := some 119) (v := ?_) (a' := ?_) #[true, true, true, true, true, true, true, true, true, true, true, true, true, true, false, false] rfl rfl (by kernel_rfl) (fun _ _ _ h => h) (Or.inl ⟨by rfl, ?_⟩) ?_ ?_
      rotate_left
      · intro w'
        go_simp
        with_reducible rfl
      rotate_left
      · simp only [Act.put, List.setIfInBounds_toArray, List.set_cons_zero, List.set_cons_succ, i64_w, i32_w]
        rfl
      refine pure_ (i := 14) (N := some 120) (v := ?_) (a' := ?_) #[true, true, true, true, true, true, true, true, true, true, true, true, true, true, true, false] rfl rfl (by kernel_rfl) (fun _ _ _ h => h) (Or.inl ⟨by rfl, ?_⟩) ?_ ?_
      rotate_left
      · intro w'
        go_simp
        with_reducible rfl
      rotate_left
      · simp only [Act.put, List.setIfInBounds_toArray, List.set_cons_zero, List.set_cons_succ, i64_w, i32_w]
        rfl
      refine last_ (i := 15) (N := none) #[true, true, true, true, true, true, true, true, true, true, true, true, true, true, true, true] rfl rfl (by kernel_rfl) (by decide) (fun K hK => ?_)
      refine skip_ (w1 := ?_) (by rfl) rfl ?_ ?_
      rotate_left
      · go_simp
        rfl
      refine hK.out _ _ ?_
      clear hK K
      refine done_ (by kernel_rfl) ?_
      go_wp2
      go_end0
      rw [HO.out]
      exact ⟨rfl, ⟨HB0'.out, _, _, blk_set b9 1 _, Kd.S_set (Kd.S_over' (Kd.S_drew HS.out) (fun q hq => Kd.R_typed HR.out q hq) (by decide) hgr) b9 (by decide) 1 _, Kd.R_set hR9 b9 (by decide) 1 _⟩, hB9.setCell HB0'.out _⟩
    · have k2b : decide ((op.length : Int) ≤ 32) = false := decide_eq_false (by omega)
      have HO := Aside0.mk (show startOp ns op nm = op by unfold startOp; rw [if_neg (fun h => k2 h.2)])
      clear k1 k2
      go_wp2_with (go_at_call 33; refine HK.out.mono ?_; rintro e w5 ⟨rfl, ⟨m, rfl⟩⟩)
      go_end0
      rw [HO.out]
      exact ⟨rfl, HBD4.out.drewN _, pw_below_drewN HB4.out _⟩
end Go.Proofs.Ytkhgnaakcaghjaa.Tr
