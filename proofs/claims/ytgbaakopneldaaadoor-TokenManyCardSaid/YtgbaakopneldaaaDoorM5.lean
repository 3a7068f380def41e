/- tok's reader's reads: walked. -/
import Derived.Test.YtgbaakopneldaaaDoorM4
section
namespace Go.Proofs.YtgbaakopneldaaaDoor.Tk
open Go.RowKit Go.Proofs.YtgbaakopneldaaaDoor.XK Go.Proofs.YtgbaakopneldaaaDoorW.PrintWords Go.Proofs.YtgbaakopneldaaaDoorW.PrintLast Go.Proofs.YtgbaakopneldaaaDoorW.PrintMore
open Go.Proofs.YtgbaakopneldaaaDoor.Refs (lowN lowByte_calls decL decode_calls)
attribute [local go_sem ↓] Go.wp_at_zero Go.wp_at_succ
set_option linter.unusedVariables false
set_option linter.unusedSimpArgs false
set_option maxRecDepth 100000
set_option maxHeartbeats 6400000 in
theorem rreads_calls (w0 w : World) (b gs gn : Nat) (p : ByteArray) (r : Rd) (s nx : St) (i : Nat) (hB : Below w0.heap.size w0 w) (hI : RdAt w w0.heap.size b (fun _ => True) p r) (hs : StAt w gs s) (hn : StAt w gn nx)
    (h1 : i < p.size) (hp : p.size ≤ 65536) (hm : r.ats.length ≤ 900000) (ha : 0 < r.ats.length ∨ (nx.pos = 5 ∧ s.pos ≠ 5) ∨ (nx.pos ≠ 5 ∧ nx.pos ≠ 8 ∧ nx.pos ≠ 9 ∧ nx.pos ≠ 10)) (hbg : s.pos = nx.pos → (nx.pos = 8 ∨ nx.pos = 9 ∨ nx.pos = 10) → r.bg ≤ i) :
    Calls Tryd.prog 49 #[.pointer (some ⟨b, 0, none⟩), .pointer (some ⟨gs, 0, none⟩), .pointer (some ⟨gn, 0, none⟩), .int .i64 (i : Int)] w (TextP w0 w b (fun _ => True) p (readsR p r s nx i)) := by
  have s0 : w.cell? ⟨gs, 0, none⟩ = some (.int .i64 s.pos) := (blk_cell hs 0).trans rfl
  have n0 : w.cell? ⟨gn, 0, none⟩ = some (.int .i64 nx.pos) := (blk_cell hn 0).trans rfl
  have HI := Aside0.mk hI
  have HB := Aside0.mk hB
  have HN := Aside0.mk hn
  obtain ⟨x0, _, _, _, x6, ⟨A5, c5, x5⟩, _, hf, cs, hcs⟩ := hI.cells
  have f5 := hf 5
  have f6 := hf 6
  have HCS := Aside0.mk hcs
  have HBW := Aside0.mk (show w0.heap.size ≤ b from hI.1)
  clear hI hB hs hn hf hcs
  by_cases k3 : nx.pos = 3
  · rw [show readsR p r s nx i = { r with ats := [] } by unfold readsR; rw [if_pos k3]]
    rw [k3] at n0
    clear k3 ha hbg
    go_enter Tryd.func49, Tryd.ntmps49
    go_wp2
    go_quiet (fail)
    go_wp2
    go_end0
    exact ⟨rfl, RdAt.nil (HI.out.drewN _), (pw_below_drewN HB.out _).setCell HBW.out _, (StKeep.below (pw_below_drewN (Below.refl _ _) nq)).trans (StKeep.set (w := w.drewN nq) HCS.out (by decide)), fun _ _ _ h => absurd trivial h⟩
  have n3b : (nx.pos == 3) = false := by simpa using k3
  by_cases k5 : nx.pos = 5
  · rw [k5] at n0
    by_cases s5 : s.pos = 5
    · rw [show readsR p r s nx i = nmR r nx.attr by unfold readsR nmR; rw [if_neg k3, if_pos k5, if_pos s5]]
      have hn : 0 < r.ats.length := by rcases ha with h | h | h; exact h; exact absurd s5 h.2; exact absurd k5 h.1
      obtain ⟨j, hj⟩ : ∃ j, r.ats.length - 1 = j := ⟨_, rfl⟩
      have HJ := Aside0.mk hj
      rw [s5] at s0
      clear k3 k5 s5 n3b ha hbg
      go_enter Tryd.func49, Tryd.ntmps49
      go_wp2
      go_quiet (fail)
      go_wp2
      have I2 := Aside0.mk (show RdAt (w.drewN nq) w0.heap.size b (fun _ => True) p r from HI.out.drewN nq)
      have T2 := Aside0.mk (show StKeep w (w.drewN nq) from StKeep.below (pw_below_drewN (Below.refl w.heap.size w) nq))
      have L2 := Aside0.mk (show Below w0.heap.size w0 (w.drewN nq) from pw_below_drewN HB.out nq)
      have N2 := Aside0.mk (StKeep.st T2.out HN.out)
      obtain ⟨w2, hw2⟩ : ∃ w2, w.drewN nq = w2 := ⟨_, rfl⟩
      rw [hw2] at I2 T2 L2 N2 ⊢
      obtain ⟨g, cap, u0, u1, y5, y0, y6, z0, z1, f0, f1, FN, FV⟩ := tail_facts I2.out (hn) T2.out L2.out j (by first | exact hj | exact HJ.out)
      have n3 : w2.cell? ⟨gn, 3, none⟩ = some (.string nx.attr) := (blk_cell N2.out 3).trans rfl
      have FN := Aside0.mk FN
      have FV := Aside0.mk FV
      have HLa := Aside0.mk (last_calls w2.drew b g cap _ y5 (hn) (by first | omega | (simp only [anR, bgR, List.length_append, List.length_singleton]; omega)))
      rw [show (r).ats.length - 1 = j from by first | exact hj | exact HJ.out] at HLa
      clear hw2
      refine start_ (n := 9) (S := fun w' => w'.cell? ⟨gn, 3, none⟩ = some (.string nx.attr)) (ds := [8]) #[false, false, false, false, false, false, false, false, false] (by kernel_rfl) rfl rfl (n3) (fun hHeld => ?_)
      refine pure_ (i := 0) (N := some 40) (v := ?_) (a' := ?_) #[true, false, false, false, false, false, false, false, false] rfl rfl (by kernel_rfl) (fun _ _ _ h => h) (Or.inl ⟨by rfl, ?_⟩) ?_ ?_
      rotate_left
      · intro w'
        go_simp
        with_reducible rfl
      rotate_left
      · simp only [Act.put, List.setIfInBounds_toArray, List.set_cons_zero, List.set_cons_succ, i64_w, i32_w]
        rfl
      refine pure_ (i := 2) (N := some 42) (v := ?_) (a' := ?_) #[true, false, true, false, false, false, false, false, false] rfl rfl (by kernel_rfl) (fun _ _ _ h => h) (Or.inl ⟨by rfl, ?_⟩) ?_ ?_
      rotate_left
      · intro w'
        go_simp
        with_reducible rfl
      rotate_left
      · simp only [Act.put, List.setIfInBounds_toArray, List.set_cons_zero, List.set_cons_succ, i64_w, i32_w]
        rfl
      refine pure_ (i := 3) (N := some 43) (v := ?_) (a' := ?_) #[true, false, true, true, false, false, false, false, false] rfl rfl (by kernel_rfl) (fun _ _ _ h => h) (Or.inl ⟨by rfl, ?_⟩) ?_ ?_
      rotate_left
      · intro w'
        go_simp
        with_reducible rfl
      rotate_left
      · simp only [Act.put, List.setIfInBounds_toArray, List.set_cons_zero, List.set_cons_succ, i64_w, i32_w]
        rfl
      refine pure_ (i := 4) (N := some 44) (v := ?_) (a' := ?_) #[true, false, true, true, true, false, false, false, false] rfl rfl (by kernel_rfl) (fun _ _ _ h => h) (Or.inl ⟨by rfl, ?_⟩) ?_ ?_
      rotate_left
      · intro w'
        go_simp
        with_reducible rfl
      rotate_left
      · simp only [Act.put, List.setIfInBounds_toArray, List.set_cons_zero, List.set_cons_succ, i64_w, i32_w]
        rfl
      refine take_ (i := 5) (N := some 45) (v := ?_) (a' := ?_) #[true, false, true, true, true, true, false, false, false] rfl rfl (by kernel_rfl) (fun _ _ _ h => h) (Or.inl ⟨by rfl, ?_⟩) hHeld ?_ ?_
      rotate_left
      · intro w' s0
        go_simp
        with_reducible rfl
      rotate_left
      · simp only [Act.put, List.setIfInBounds_toArray, List.set_cons_zero, List.set_cons_succ, i64_w, i32_w]
        rfl
      refine one_ (i := 1) (N := some 41) #[true, true, true, true, true, true, false, false, false] rfl rfl (by kernel_rfl) (by decide) (fun K hK => ?_)
      refine goes_ Tryd.func68 (by kernel_rfl) rfl #[.pointer (some ⟨b, 0, none⟩)] (by rfl) rfl rfl (by simp only [List.map_toArray, List.map_cons, List.map_nil]; rfl) ?_
      with_reducible refine (HLa.out).mono ?_
      rintro e w3 ⟨rfl, ⟨m3, rfl⟩⟩
      refine ⟨_, rfl, ?_⟩
      refine hK.out _ _ (n3) (fun hHeld => ?_)
      clear hK K
      refine norm_ (a' := ?_) ?_ ?_
      rotate_left
      · show Act.put _ (some 41) _ = _
        simp only [Act.put, List.setIfInBounds_toArray, List.set_cons_zero, List.set_cons_succ, i64_w, i32_w]
        rfl
      refine pure_ (i := 6) (N := some 46) (v := ?_) (a' := ?_) #[true, true, true, true, true, true, true, false, false] rfl rfl (by kernel_rfl) (fun _ _ _ h => h) (Or.inl ⟨by rfl, ?_⟩) ?_ ?_
      rotate_left
      · intro w'
        go_simp
        with_reducible rfl
      rotate_left
      · simp only [Act.put, List.setIfInBounds_toArray, List.set_cons_zero, List.set_cons_succ, i64_w, i32_w]
        rfl
      refine pure_ (i := 7) (N := some 47) (v := ?_) (a' := ?_) #[true, true, true, true, true, true, true, true, false] rfl rfl (by kernel_rfl) (fun _ _ _ h => h) (Or.inl ⟨by rfl, ?_⟩) ?_ ?_
      rotate_left
      · intro w'
        go_simp
        with_reducible rfl
      rotate_left
      · simp only [Act.put, List.setIfInBounds_toArray, List.set_cons_zero, List.set_cons_succ, i64_w, i32_w]
        rfl
      refine last_ (i := 8) (N := none) #[true, true, true, true, true, true, true, true, true] rfl rfl (by kernel_rfl) (by decide) (fun K hK => ?_)
      refine skip_ (w1 := ?_) (by rfl) rfl ?_ ?_
      rotate_left
      · go_simp
        rfl
      refine hK.out _ _ ?_
      clear hK K
      refine done_ (by kernel_rfl) ?_
      go_end0
      exact FN.out _ _ ⟨⟨1 + m3, rfl⟩⟩
    · rw [show readsR p r s nx i = nmR (anR r) nx.attr by unfold readsR nmR anR; rw [if_neg k3, if_pos k5, if_neg s5]]
      obtain ⟨j, hj⟩ : ∃ j, (anR r).ats.length - 1 = j := ⟨_, rfl⟩
      have HJ := Aside0.mk hj
      have sb : (s.pos != 5) = true := by simpa using s5
      obtain ⟨hb0, v0, v1, hb1, hS, hR⟩ := HI.out
      obtain ⟨A1, c1, rfl⟩ := Kd.R_slice hR
      have q5 : w.cell? ⟨b, 5, none⟩ = some (.slice A1 r.ats.length c1) := (blk_cell hb1 5).trans rfl
      have HB1 := Aside0.mk hb1
      have HS := Aside0.mk hS
      have HR := Aside0.mk hR
      clear k3 k5 s5 n3b ha hbg x5 hb0 hb1 hS hR
      go_enter Tryd.func49, Tryd.ntmps49
      go_wp2
      go_quiet (fail)
      go_wp2_with (at_builtin; refine Kd.R_append k47 (w0 := w0) (W := w.drewN nq) w0.heap.size rfl (.tmp 34) (.tmp 36) 28 47 (.agg #[(.string ⟨#[]⟩), (.string ⟨#[]⟩)]) 32 rfl Tryd.underlying28 infoAttr rfl (by decide) (by decide) (.slice A1 r.ats.length c1) r.ats ⟨⟨#[]⟩, ⟨#[]⟩⟩ [.string ⟨#[]⟩, .string ⟨#[]⟩] (fun _ => True) (fun _ => False) rfl rfl (k47_mkM _ _ _ (⟨⟨#[]⟩, ⟨#[]⟩⟩ : S47)) (fun q hq => hq.elim) (fun _ _ => trivial) (Kd.R_drewN HR.out nq) (pw_below_drewN HB.out nq) (pw_below_drewN HB.out nq).size (by omega) ?_; intro v9 w9 hR9 hB9 hgr hat; obtain ⟨A9, c9, e9⟩ := Kd.R_slice hR9; rw [List.length_append, List.length_singleton] at e9; subst e9; have b9 := blk_grown (w := w.drewN nq) HB1.out hgr (Kd.R_ne HR.out HB1.out (by decide)); have c9' : w9.cell? ⟨b, 5, none⟩ = some (.slice A1 r.ats.length c1) := (blk_cell b9 5).trans rfl; have f9 : w9.frozen? ⟨b, 5, none⟩ = false := blk_frozen b9 5; have R9 := Aside0.mk hR9; have L9 := Aside0.mk hB9; have G9 := Aside0.mk hgr; have A9' := Aside0.mk hat; have B9 := Aside0.mk b9; clear hR9 hB9 hgr hat b9)
      have I2 := Aside0.mk (show RdAt (w9.setCell ⟨b, 5, none⟩ (.slice A9 (r.ats.length + 1) c9)) w0.heap.size b (fun _ => True) p (anR r) from show RdAt (w9.setCell ⟨b, 5, none⟩ (.slice A9 (r.ats.length + 1) c9)) w0.heap.size b (fun _ => True) p (anR r) from ⟨HBW.out, _, _, blk_set B9.out 5 _, Kd.S_set (Kd.S_after (Kd.S_drewN HS.out nq) G9.out A9'.out) B9.out (by decide) 5 _, Kd.R_set R9.out B9.out (by decide) 5 _⟩)
      have T2 := Aside0.mk (show StKeep w (w9.setCell ⟨b, 5, none⟩ (.slice A9 (r.ats.length + 1) c9)) from ((StKeep.below (pw_below_drewN (Below.refl w.heap.size w) nq)).trans (StKeep.grown G9.out (fun q hq => Kd.R_typed (Kd.R_drewN HR.out nq) q hq) (by decide))).trans (StKeep.set B9.out (by decide)))
      have L2 := Aside0.mk (show Below w0.heap.size w0 (w9.setCell ⟨b, 5, none⟩ (.slice A9 (r.ats.length + 1) c9)) from L9.out.setCell HBW.out _)
      have N2 := Aside0.mk (StKeep.st T2.out HN.out)
      obtain ⟨w2, hw2⟩ : ∃ w2, w9.setCell ⟨b, 5, none⟩ (.slice A9 (r.ats.length + 1) c9) = w2 := ⟨_, rfl⟩
      rw [hw2] at I2 T2 L2 N2 ⊢
      obtain ⟨g, cap, u0, u1, y5, y0, y6, z0, z1, f0, f1, FN, FV⟩ := tail_facts I2.out (by simp [anR]) T2.out L2.out j (by first | exact hj | exact HJ.out)
      have n3 : w2.cell? ⟨gn, 3, none⟩ = some (.string nx.attr) := (blk_cell N2.out 3).trans rfl
      have FN := Aside0.mk FN
      have FV := Aside0.mk FV
      have HLa := Aside0.mk (last_calls w2.drew b g cap _ y5 (by simp [anR]) (by first | omega | (simp only [anR, bgR, List.length_append, List.length_singleton]; omega)))
      rw [show ((anR r)).ats.length - 1 = j from by first | exact hj | exact HJ.out] at HLa
      clear hw2
      refine start_ (n := 9) (S := fun w' => w'.cell? ⟨gn, 3, none⟩ = some (.string nx.attr)) (ds := [8]) #[false, false, false, false, false, false, false, false, false] (by kernel_rfl) rfl rfl (n3) (fun hHeld => ?_)
      refine pure_ (i := 0) (N := some 40) (v := ?_) (a' := ?_) #[true, false, false, false, false, false, false, false, false] rfl rfl (by kernel_rfl) (fun _ _ _ h => h) (Or.inl ⟨by rfl, ?_⟩) ?_ ?_
      rotate_left
      · intro w'
        go_simp
        with_reducible rfl
      rotate_left
      · simp only [Act.put, List.setIfInBounds_toArray, List.set_cons_zero, List.set_cons_succ, i64_w, i32_w]
        rfl
      refine pure_ (i := 2) (N := some 42) (v := ?_) (a' := ?_) #[true, false, true, false, false, false, false, false, false] rfl rfl (by kernel_rfl) (fun _ _ _ h => h) (Or.inl ⟨by rfl, ?_⟩) ?_ ?_
      rotate_left
      · intro w'
        go_simp
        with_reducible rfl
      rotate_left
      · simp only [Act.put, List.setIfInBounds_toArray, List.set_cons_zero, List.set_cons_succ, i64_w, i32_w]
        rfl
      refine pure_ (i := 3) (N := some 43) (v := ?_) (a' := ?_) #[true, false, true, true, false, false, false, false, false] rfl rfl (by kernel_rfl) (fun _ _ _ h => h) (Or.inl ⟨by rfl, ?_⟩) ?_ ?_
      rotate_left
      · intro w'
        go_simp
        with_reducible rfl
      rotate_left
      · simp only [Act.put, List.setIfInBounds_toArray, List.set_cons_zero, List.set_cons_succ, i64_w, i32_w]
        rfl
      refine pure_ (i := 4) (N := some 44) (v := ?_) (a' := ?_) #[true, false, true, true, true, false, false, false, false] rfl rfl (by kernel_rfl) (fun _ _ _ h => h) (Or.inl ⟨by rfl, ?_⟩) ?_ ?_
      rotate_left
      · intro w'
        go_simp
        with_reducible rfl
      rotate_left
      · simp only [Act.put, List.setIfInBounds_toArray, List.set_cons_zero, List.set_cons_succ, i64_w, i32_w]
        rfl
      refine take_ (i := 5) (N := some 45) (v := ?_) (a' := ?_) #[true, false, true, true, true, true, false, false, false] rfl rfl (by kernel_rfl) (fun _ _ _ h => h) (Or.inl ⟨by rfl, ?_⟩) hHeld ?_ ?_
      rotate_left
      · intro w' s0
        go_simp
        with_reducible rfl
      rotate_left
      · simp only [Act.put, List.setIfInBounds_toArray, List.set_cons_zero, List.set_cons_succ, i64_w, i32_w]
        rfl
      refine one_ (i := 1) (N := some 41) #[true, true, true, true, true, true, false, false, false] rfl rfl (by kernel_rfl) (by decide) (fun K hK => ?_)
      refine goes_ Tryd.func68 (by kernel_rfl) rfl #[.pointer (some ⟨b, 0, none⟩)] (by rfl) rfl rfl (by simp only [List.map_toArray, List.map_cons, List.map_nil]; rfl) ?_
      with_reducible refine (HLa.out).mono ?_
      rintro e w3 ⟨rfl, ⟨m3, rfl⟩⟩
      refine ⟨_, rfl, ?_⟩
      refine hK.out _ _ (n3) (fun hHeld => ?_)
      clear hK K
      refine norm_ (a' := ?_) ?_ ?_
      rotate_left
      · show Act.put _ (some 41) _ = _
        simp only [Act.put, List.setIfInBounds_toArray, List.set_cons_zero, List.set_cons_succ, i64_w, i32_w]
        rfl
      refine pure_ (i := 6) (N := some 46) (v := ?_) (a' := ?_) #[true, true, true, true, true, true, true, false, false] rfl rfl (by kernel_rfl) (fun _ _ _ h => h) (Or.inl ⟨by rfl, ?_⟩) ?_ ?_
      rotate_left
      · intro w'
        go_simp
        with_reducible rfl
      rotate_left
      · simp only [Act.put, List.setIfInBounds_toArray, List.set_cons_zero, List.set_cons_succ, i64_w, i32_w]
        rfl
      refine pure_ (i := 7) (N := some 47) (v := ?_) (a' := ?_) #[true, true, true, true, true, true, true, true, false] rfl rfl (by kernel_rfl) (fun _ _ _ h => h) (Or.inl ⟨by rfl, ?_⟩) ?_ ?_
      rotate_left
      · intro w'
        go_simp
        with_reducible rfl
      rotate_left
      · simp only [Act.put, List.setIfInBounds_toArray, List.set_cons_zero, List.set_cons_succ, i64_w, i32_w]
        rfl
      refine last_ (i := 8) (N := none) #[true, true, true, true, true, true, true, true, true] rfl rfl (by kernel_rfl) (by decide) (fun K hK => ?_)
      refine skip_ (w1 := ?_) (by rfl) rfl ?_ ?_
      rotate_left
      · go_simp
        rfl
      refine hK.out _ _ ?_
      clear hK K
      refine done_ (by kernel_rfl) ?_
      go_end0
      exact FN.out _ _ ⟨⟨1 + m3, rfl⟩⟩
  have n5b : (nx.pos == 5) = false := by simpa using k5
  obtain ⟨i1, hi1⟩ : ∃ i1, i + 1 = i1 := ⟨_, rfl⟩
  have hwi : IntKind.i64.wrap ((i : Int) + 1) = (i1 : Int) := by rw [show (i : Int) + 1 = (i1 : Int) by omega]; exact w64 _ (by omega)
  by_cases k10 : nx.pos = 10
  · rw [k10] at n0
    by_cases s1 : s.pos = 10
    · rw [show readsR p r s nx i = vlR r (p.extract r.bg i1) by unfold readsR vlR; rw [if_neg k3, if_neg k5, if_pos k10, if_pos s1]; subst hi1; rfl]
      have hn : 0 < r.ats.length := by rcases ha with h | h | h; exact h; exact absurd h.1 k5; exact absurd k10 (by first | exact h.2.1 | exact h.2.2.1 | exact h.2.2.2)
      obtain ⟨j, hj⟩ : ∃ j, r.ats.length - 1 = j := ⟨_, rfl⟩
      have HJ : Aside0 (r.ats.length - 1 = j) := Aside0.mk hj
      have hb := hbg (by rw [s1, k10]) (by omega)
      have hrun := fun W => slice_run (P := Tryd.prog) 9 p r.bg i1 (by omega) (by omega) W Tryd.underlying9
      obtain ⟨q, hq⟩ : ∃ q, p.extract r.bg i1 = q := ⟨_, rfl⟩
      rw [hq] at hrun ⊢
      rw [s1] at s0
      clear k3 k5 s1 n3b n5b ha hbg hq hi1 k10
      go_enter Tryd.func49, Tryd.ntmps49
      go_wp2
      go_quiet (fail)
      go_wp2
      have I2 := Aside0.mk (show RdAt (w.drewN nq) w0.heap.size b (fun _ => True) p r from HI.out.drewN nq)
      have T2 := Aside0.mk (show StKeep w (w.drewN nq) from StKeep.below (pw_below_drewN (Below.refl w.heap.size w) nq))
      have L2 := Aside0.mk (show Below w0.heap.size w0 (w.drewN nq) from pw_below_drewN HB.out nq)
      have N2 := Aside0.mk (StKeep.st T2.out HN.out)
      obtain ⟨w2, hw2⟩ : ∃ w2, w.drewN nq = w2 := ⟨_, rfl⟩
      rw [hw2] at I2 T2 L2 N2 ⊢
      obtain ⟨g, cap, u0, u1, y5, y0, y6, z0, z1, f0, f1, FN, FV⟩ := tail_facts I2.out (hn) T2.out L2.out j (by first | exact hj | exact HJ.out)
      have n3 : w2.cell? ⟨gn, 3, none⟩ = some (.string nx.attr) := (blk_cell N2.out 3).trans rfl
      have FN := Aside0.mk FN
      have FV := Aside0.mk FV
      have HLa := Aside0.mk (last_calls w2.drew b g cap _ y5 (hn) (by first | omega | (simp only [anR, bgR, List.length_append, List.length_singleton]; omega)))
      rw [show (r).ats.length - 1 = j from by first | exact hj | exact HJ.out] at HLa
      clear hw2
      refine start_ (n := 16) (S := fun w' => w'.cell? ⟨b, 0, none⟩ = some (.string p) ∧ w'.cell? ⟨b, 6, none⟩ = some (.int .i64 (r.bg : Nat))) (ds := [15]) #[false, false, false, false, false, false, false, false, false, false, false, false, false, false, false, false] (by kernel_rfl) rfl rfl ⟨y0, y6⟩ (fun hHeld => ?_)
      refine pure_ (i := 0) (N := some 55) (v := ?_) (a' := ?_) #[true, false, false, false, false, false, false, false, false, false, false, false, false, false, false, false] rfl rfl (by kernel_rfl) (fun _ _ _ h => h) (Or.inl ⟨by rfl, ?_⟩) ?_ ?_
      rotate_left
      · intro w'
        go_simp
        with_reducible rfl
      rotate_left
      · simp only [Act.put, List.setIfInBounds_toArray, List.set_cons_zero, List.set_cons_succ, i64_w, i32_w]
        rfl
      refine pure_ (i := 2) (N := some 57) (v := ?_) (a' := ?_) #[true, false, true, false, false, false, false, false, false, false, false, false, false, false, false, false] rfl rfl (by kernel_rfl) (fun _ _ _ h => h) (Or.inl ⟨by rfl, ?_⟩) ?_ ?_
      rotate_left
      · intro w'
        go_simp
        with_reducible rfl
      rotate_left
      · simp only [Act.put, List.setIfInBounds_toArray, List.set_cons_zero, List.set_cons_succ, i64_w, i32_w]
        rfl
      refine pure_ (i := 3) (N := some 58) (v := ?_) (a' := ?_) #[true, false, true, true, false, false, false, false, false, false, false, false, false, false, false, false] rfl rfl (by kernel_rfl) (fun _ _ _ h => h) (Or.inl ⟨by rfl, ?_⟩) ?_ ?_
      rotate_left
      · intro w'
        go_simp
        with_reducible rfl
      rotate_left
      · simp only [Act.put, List.setIfInBounds_toArray, List.set_cons_zero, List.set_cons_succ, i64_w, i32_w]
        rfl
      refine pure_ (i := 4) (N := some 59) (v := ?_) (a' := ?_) #[true, false, true, true, true, false, false, false, false, false, false, false, false, false, false, false] rfl rfl (by kernel_rfl) (fun _ _ _ h => h) (Or.inl ⟨by rfl, ?_⟩) ?_ ?_
      rotate_left
      · intro w'
        go_simp
        with_reducible rfl
      rotate_left
      · simp only [Act.put, List.setIfInBounds_toArray, List.set_cons_zero, List.set_cons_succ, i64_w, i32_w]
        rfl
      refine pure_ (i := 6) (N := some 61) (v := ?_) (a' := ?_) #[true, false, true, true, true, false, true, false, false, false, false, false, false, false, false, false] rfl rfl (by kernel_rfl) (fun _ _ _ h => h) (Or.inl ⟨by rfl, ?_⟩) ?_ ?_
      rotate_left
      · intro w'
        go_simp
        with_reducible rfl
      rotate_left
      · simp only [Act.put, List.setIfInBounds_toArray, List.set_cons_zero, List.set_cons_succ, i64_w, i32_w]
        rfl
      refine pure_ (i := 7) (N := some 62) (v := ?_) (a' := ?_) #[true, false, true, true, true, false, true, true, false, false, false, false, false, false, false, false] rfl rfl (by kernel_rfl) (fun _ _ _ h => h) (Or.inl ⟨by rfl, ?_⟩) ?_ ?_
      rotate_left
      · intro w'
        go_simp
        with_reducible rfl
      rotate_left
      · simp only [Act.put, List.setIfInBounds_toArray, List.set_cons_zero, List.set_cons_succ, i64_w, i32_w]
        rfl
      refine pure_ (i := 8) (N := some 63) (v := ?_) (a' := ?_) #[true, false, true, true, true, false, true, true, true, false, false, false, false, false, false, false] rfl rfl (by kernel_rfl) (fun _ _ _ h => h) (Or.inl ⟨by rfl, ?_⟩) ?_ ?_
      rotate_left
      · intro w'
        go_simp
        with_reducible rfl
      rotate_left
      · simp only [Act.put, List.setIfInBounds_toArray, List.set_cons_zero, List.set_cons_succ, i64_w, i32_w]
        rfl
      refine pure_ (i := 10) (N := some 65) (v := ?_) (a' := ?_) #[true, false, true, true, true, false, true, true, true, false, true, false, false, false, false, false] rfl rfl (by kernel_rfl) (fun _ _ _ h => h) (Or.inl ⟨by rfl, ?_⟩) ?_ ?_
      rotate_left
      · intro w'
        go_simp
        with_reducible rfl
      rotate_left
      · simp only [Act.put, List.setIfInBounds_toArray, List.set_cons_zero, List.set_cons_succ, i64_w, i32_w]
        rfl
      refine pure_ (i := 11) (N := some 66) (v := ?_) (a' := ?_) #[true, false, true, true, true, false, true, true, true, false, true, true, false, false, false, false] rfl rfl (by kernel_rfl) (fun _ _ _ h => h) (Or.inl ⟨by rfl, ?_⟩) ?_ ?_
      rotate_left
      · intro w'
        go_simp
        with_reducible rfl
      rotate_left
      · simp only [Act.put, List.setIfInBounds_toArray, List.set_cons_zero, List.set_cons_succ, i64_w, i32_w]
        rfl
      refine take_ (i := 5) (N := some 60) (v := ?_) (a' := ?_) #[true, false, true, true, true, true, true, true, true, false, true, true, false, false, false, false] rfl rfl (by kernel_rfl) (fun _ _ _ h => h) (Or.inl ⟨by rfl, ?_⟩) hHeld ?_ ?_
      rotate_left
      · rintro w' ⟨s0, s1⟩
        go_simp
        with_reducible rfl
      rotate_left
      · simp only [Act.put, List.setIfInBounds_toArray, List.set_cons_zero, List.set_cons_succ, i64_w, i32_w]
        rfl
      refine take_ (i := 9) (N := some 64) (v := ?_) (a' := ?_) #[true, false, true, true, true, true, true, true, true, true, true, true, false, false, false, false] rfl rfl (by kernel_rfl) (fun _ _ _ h => h) (Or.inl ⟨by rfl, ?_⟩) hHeld ?_ ?_
      rotate_left
      · rintro w' ⟨s0, s1⟩
        go_simp
        with_reducible rfl
      rotate_left
      · simp only [Act.put, List.setIfInBounds_toArray, List.set_cons_zero, List.set_cons_succ, i64_w, i32_w]
        rfl
      refine pure_ (i := 12) (N := some 67) (v := ?_) (a' := ?_) #[true, false, true, true, true, true, true, true, true, true, true, true, true, false, false, false] rfl rfl (by kernel_rfl) (fun _ _ _ h => h) (Or.inl ⟨by rfl, ?_⟩) ?_ ?_
      rotate_left
      · intro w'
        go_simp
        with_reducible rfl
      rotate_left
      · simp only [Act.put, List.setIfInBounds_toArray, List.set_cons_zero, List.set_cons_succ, i64_w, i32_w]
        rfl
      refine one_ (i := 1) (N := some 56) #[true, true, true, true, true, true, true, true, true, true, true, true, true, false, false, false] rfl rfl (by kernel_rfl) (by decide) (fun K hK => ?_)
      refine goes_ Tryd.func68 (by kernel_rfl) rfl #[.pointer (some ⟨b, 0, none⟩)] (by rfl) rfl rfl (by simp only [List.map_toArray, List.map_cons, List.map_nil]; rfl) ?_
      with_reducible refine (HLa.out).mono ?_
      rintro e w3 ⟨rfl, ⟨m3, rfl⟩⟩
      refine ⟨_, rfl, ?_⟩
      refine hK.out _ _ ⟨y0, y6⟩ (fun hHeld => ?_)
      clear hK K
      refine norm_ (a' := ?_) ?_ ?_
      rotate_left
      · show Act.put _ (some 56) _ = _
        simp only [Act.put, List.setIfInBounds_toArray, List.set_cons_zero, List.set_cons_succ, i64_w, i32_w]
        rfl
      refine pure_ (i := 13) (N := some 68) (v := ?_) (a' := ?_) #[true, true, true, true, true, true, true, true, true, true, true, true, true, true, false, false] rfl rfl (by kernel_rfl) (fun _ _ _ h => h) (Or.inl ⟨by rfl, ?_⟩) ?_ ?_
      rotate_left
      · intro w'
        go_simp
        with_reducible rfl
      rotate_left
      · simp only [Act.put, List.setIfInBounds_toArray, List.set_cons_zero, List.set_cons_succ, i64_w, i32_w]
        rfl
      refine pure_ (i := 14) (N := some 69) (v := ?_) (a' := ?_) #[true, true, true, true, true, true, true, true, true, true, true, true, true, true, true, false] rfl rfl (by kernel_rfl) (fun _ _ _ h => h) (Or.inl ⟨by rfl, ?_⟩) ?_ ?_
      rotate_left
      · intro w'
        go_simp
        with_reducible rfl
      rotate_left
      · simp only [Act.put, List.setIfInBounds_toArray, List.set_cons_zero, List.set_cons_succ, i64_w, i32_w]
        rfl
      refine last_ (i := 15) (N := none) #[true, true, true, true, true, true, true, true, true, true, true, true, true, true, true, true] rfl rfl (by kernel_rfl) (by decide) (fun K hK => ?_)
      refine skip_ (w1 := ?_) (by rfl) rfl ?_ ?_
      rotate_left
      · go_simp
        rfl
      refine hK.out _ _ ?_
      clear hK K
      refine done_ (by kernel_rfl) ?_
      go_end0
      exact FV.out _ _ ⟨⟨1 + m3, rfl⟩⟩
    · rw [show readsR p r s nx i = vlR (bgR r i) (p.extract i i1) by unfold readsR vlR bgR; rw [if_neg k3, if_neg k5, if_pos k10, if_neg s1]; subst hi1; rfl]
      have hn : 0 < r.ats.length := by rcases ha with h | h | h; exact h; exact absurd h.1 k5; exact absurd k10 (by first | exact h.2.1 | exact h.2.2.1 | exact h.2.2.2)
      obtain ⟨j, hj⟩ : ∃ j, r.ats.length - 1 = j := ⟨_, rfl⟩
      have HJ : Aside0 ((bgR r i).ats.length - 1 = j) := Aside0.mk hj
      have hrun := fun W => slice_run (P := Tryd.prog) 9 p i i1 (by omega) (by omega) W Tryd.underlying9
      obtain ⟨q, hq⟩ : ∃ q, p.extract i i1 = q := ⟨_, rfl⟩
      rw [hq] at hrun ⊢
      have sb : (s.pos != 10) = true := by simpa using s1
      clear k3 k5 s1 n3b n5b ha hbg hq hi1 k10
      go_enter Tryd.func49, Tryd.ntmps49
      go_wp2
      go_quiet (fail)
      go_wp2
      have I2 := Aside0.mk (show RdAt ((w.drewN nq).setCell ⟨b, 6, none⟩ (.int .i64 (i : Int))) w0.heap.size b (fun _ => True) p (bgR r i) from (HI.out.drewN nq).bg i)
      have T2 := Aside0.mk (show StKeep w ((w.drewN nq).setCell ⟨b, 6, none⟩ (.int .i64 (i : Int))) from (StKeep.below (pw_below_drewN (Below.refl w.heap.size w) nq)).trans (StKeep.set (w := w.drewN nq) HCS.out (by decide)))
      have L2 := Aside0.mk (show Below w0.heap.size w0 ((w.drewN nq).setCell ⟨b, 6, none⟩ (.int .i64 (i : Int))) from (pw_below_drewN HB.out nq).setCell HBW.out _)
      have N2 := Aside0.mk (StKeep.st T2.out HN.out)
      obtain ⟨w2, hw2⟩ : ∃ w2, (w.drewN nq).setCell ⟨b, 6, none⟩ (.int .i64 (i : Int)) = w2 := ⟨_, rfl⟩
      rw [hw2] at I2 T2 L2 N2 ⊢
      obtain ⟨g, cap, u0, u1, y5, y0, y6, z0, z1, f0, f1, FN, FV⟩ := tail_facts I2.out (hn) T2.out L2.out j (by first | exact hj | exact HJ.out)
      have n3 : w2.cell? ⟨gn, 3, none⟩ = some (.string nx.attr) := (blk_cell N2.out 3).trans rfl
      have FN := Aside0.mk FN
      have FV := Aside0.mk FV
      have HLa := Aside0.mk (last_calls w2.drew b g cap _ y5 (hn) (by first | omega | (simp only [anR, bgR, List.length_append, List.length_singleton]; omega)))
      rw [show ((bgR r i)).ats.length - 1 = j from by first | exact hj | exact HJ.out] at HLa
      clear hw2
      refine start_ (n := 16) (S := fun w' => w'.cell? ⟨b, 0, none⟩ = some (.string p) ∧ w'.cell? ⟨b, 6, none⟩ = some (.int .i64 (i : Nat))) (ds := [15]) #[false, false, false, false, false, false, false, false, false, false, false, false, false, false, false, false] (by kernel_rfl) rfl rfl ⟨y0, y6⟩ (fun hHeld => ?_)
      refine pure_ (i := 0) (N := some 55) (v := ?_) (a' := ?_) #[true, false, false, false, false, false, false, false, false, false, false, false, false, false, false, false] rfl rfl (by kernel_rfl) (fun _ _ _ h => h) (Or.inl ⟨by rfl, ?_⟩) ?_ ?_
      rotate_left
      · intro w'
        go_simp
        with_reducible rfl
      rotate_left
      · simp only [Act.put, List.setIfInBounds_toArray, List.set_cons_zero, List.set_cons_succ, i64_w, i32_w]
        rfl
      refine pure_ (i := 2) (N := some 57) (v := ?_) (a' := ?_) #[true, false, true, false, false, false, false, false, false, false, false, false, false, false, false, false] rfl rfl (by kernel_rfl) (fun _ _ _ h => h) (Or.inl ⟨by rfl, ?_⟩) ?_ ?_
      rotate_left
      · intro w'
        go_simp
        with_reducible rfl
      rotate_left
      · simp only [Act.put, List.setIfInBounds_toArray, List.set_cons_zero, List.set_cons_succ, i64_w, i32_w]
        rfl
      refine pure_ (i := 3) (N := some 58) (v := ?_) (a' := ?_) #[true, false, true, true, false, false, false, false, false, false, false, false, false, false, false, false] rfl rfl (by kernel_rfl) (fun _ _ _ h => h) (Or.inl ⟨by rfl, ?_⟩) ?_ ?_
      rotate_left
      · intro w'
        go_simp
        with_reducible rfl
      rotate_left
      · simp only [Act.put, List.setIfInBounds_toArray, List.set_cons_zero, List.set_cons_succ, i64_w, i32_w]
        rfl
      refine pure_ (i := 4) (N := some 59) (v := ?_) (a' := ?_) #[true, false, true, true, true, false, false, false, false, false, false, false, false, false, false, false] rfl rfl (by kernel_rfl) (fun _ _ _ h => h) (Or.inl ⟨by rfl, ?_⟩) ?_ ?_
      rotate_left
      · intro w'
        go_simp
        with_reducible rfl
      rotate_left
      · simp only [Act.put, List.setIfInBounds_toArray, List.set_cons_zero, List.set_cons_succ, i64_w, i32_w]
        rfl
      refine pure_ (i := 6) (N := some 61) (v := ?_) (a' := ?_) #[true, false, true, true, true, false, true, false, false, false, false, false, false, false, false, false] rfl rfl (by kernel_rfl) (fun _ _ _ h => h) (Or.inl ⟨by rfl, ?_⟩) ?_ ?_
      rotate_left
      · intro w'
        go_simp
        with_reducible rfl
      rotate_left
      · simp only [Act.put, List.setIfInBounds_toArray, List.set_cons_zero, List.set_cons_succ, i64_w, i32_w]
        rfl
      refine pure_ (i := 7) (N := some 62) (v := ?_) (a' := ?_) #[true, false, true, true, true, false, true, true, false, false, false, false, false, false, false, false] rfl rfl (by kernel_rfl) (fun _ _ _ h => h) (Or.inl ⟨by rfl, ?_⟩) ?_ ?_
      rotate_left
      · intro w'
        go_simp
        with_reducible rfl
      rotate_left
      · simp only [Act.put, List.setIfInBounds_toArray, List.set_cons_zero, List.set_cons_succ, i64_w, i32_w]
        rfl
      refine pure_ (i := 8) (N := some 63) (v := ?_) (a' := ?_) #[true, false, true, true, true, false, true, true, true, false, false, false, false, false, false, false] rfl rfl (by kernel_rfl) (fun _ _ _ h => h) (Or.inl ⟨by rfl, ?_⟩) ?_ ?_
      rotate_left
      · intro w'
        go_simp
        with_reducible rfl
      rotate_left
      · simp only [Act.put, List.setIfInBounds_toArray, List.set_cons_zero, List.set_cons_succ, i64_w, i32_w]
        rfl
      refine pure_ (i := 10) (N := some 65) (v := ?_) (a' := ?_) #[true, false, true, true, true, false, true, true, true, false, true, false, false, false, false, false] rfl rfl (by kernel_rfl) (fun _ _ _ h => h) (Or.inl ⟨by rfl, ?_⟩) ?_ ?_
      rotate_left
      · intro w'
        go_simp
        with_reducible rfl
      rotate_left
      · simp only [Act.put, List.setIfInBounds_toArray, List.set_cons_zero, List.set_cons_succ, i64_w, i32_w]
        rfl
      refine pure_ (i := 11) (N := some 66) (v := ?_) (a' := ?_) #[true, false, true, true, true, false, true, true, true, false, true, true, false, false, false, false] rfl rfl (by kernel_rfl) (fun _ _ _ h => h) (Or.inl ⟨by rfl, ?_⟩) ?_ ?_
      rotate_left
      · intro w'
        go_simp
        with_reducible rfl
      rotate_left
      · simp only [Act.put, List.setIfInBounds_toArray, List.set_cons_zero, List.set_cons_succ, i64_w, i32_w]
        rfl
      refine take_ (i := 5) (N := some 60) (v := ?_) (a' := ?_) #[true, false, true, true, true, true, true, true, true, false, true, true, false, false, false, false] rfl rfl (by kernel_rfl) (fun _ _ _ h => h) (Or.inl ⟨by rfl, ?_⟩) hHeld ?_ ?_
      rotate_left
      · rintro w' ⟨s0, s1⟩
        go_simp
        with_reducible rfl
      rotate_left
      · simp only [Act.put, List.setIfInBounds_toArray, List.set_cons_zero, List.set_cons_succ, i64_w, i32_w]
        rfl
      refine take_ (i := 9) (N := some 64) (v := ?_) (a' := ?_) #[true, false, true, true, true, true, true, true, true, true, true, true, false, false, false, false] rfl rfl (by kernel_rfl) (fun _ _ _ h => h) (Or.inl ⟨by rfl, ?_⟩) hHeld ?_ ?_
      rotate_left
      · rintro w' ⟨s0, s1⟩
        go_simp
        with_reducible rfl
      rotate_left
      · simp only [Act.put, List.setIfInBounds_toArray, List.set_cons_zero, List.set_cons_succ, i64_w, i32_w]
        rfl
      refine pure_ (i := 12) (N := some 67) (v := ?_) (a' := ?_) #[true, false, true, true, true, true, true, true, true, true, true, true, true, false, false, false] rfl rfl (by kernel_rfl) (fun _ _ _ h => h) (Or.inl ⟨by rfl, ?_⟩) ?_ ?_
      rotate_left
      · intro w'
        go_simp
        with_reducible rfl
      rotate_left
      · simp only [Act.put, List.setIfInBounds_toArray, List.set_cons_zero, List.set_cons_succ, i64_w, i32_w]
        rfl
      refine one_ (i := 1) (N := some 56) #[true, true, true, true, true, true, true, true, true, true, true, true, true, false, false, false] rfl rfl (by kernel_rfl) (by decide) (fun K hK => ?_)
      refine goes_ Tryd.func68 (by kernel_rfl) rfl #[.pointer (some ⟨b, 0, none⟩)] (by rfl) rfl rfl (by simp only [List.map_toArray, List.map_cons, List.map_nil]; rfl) ?_
      with_reducible refine (HLa.out).mono ?_
      rintro e w3 ⟨rfl, ⟨m3, rfl⟩⟩
      refine ⟨_, rfl, ?_⟩
      refine hK.out _ _ ⟨y0, y6⟩ (fun hHeld => ?_)
      clear hK K
      refine norm_ (a' := ?_) ?_ ?_
      rotate_left
      · show Act.put _ (some 56) _ = _
        simp only [Act.put, List.setIfInBounds_toArray, List.set_cons_zero, List.set_cons_succ, i64_w, i32_w]
        rfl
      refine pure_ (i := 13) (N := some 68) (v := ?_) (a' := ?_) #[true, true, true, true, true, true, true, true, true, true, true, true, true, true, false, false] rfl rfl (by kernel_rfl) (fun _ _ _ h => h) (Or.inl ⟨by rfl, ?_⟩) ?_ ?_
      rotate_left
      · intro w'
        go_simp
        with_reducible rfl
      rotate_left
      · simp only [Act.put, List.setIfInBounds_toArray, List.set_cons_zero, List.set_cons_succ, i64_w, i32_w]
        rfl
      refine pure_ (i := 14) (N := some 69) (v := ?_) (a' := ?_) #[true, true, true, true, true, true, true, true, true, true, true, true, true, true, true, false] rfl rfl (by kernel_rfl) (fun _ _ _ h => h) (Or.inl ⟨by rfl, ?_⟩) ?_ ?_
      rotate_left
      · intro w'
        go_simp
        with_reducible rfl
      rotate_left
      · simp only [Act.put, List.setIfInBounds_toArray, List.set_cons_zero, List.set_cons_succ, i64_w, i32_w]
        rfl
      refine last_ (i := 15) (N := none) #[true, true, true, true, true, true, true, true, true, true, true, true, true, true, true, true] rfl rfl (by kernel_rfl) (by decide) (fun K hK => ?_)
      refine skip_ (w1 := ?_) (by rfl) rfl ?_ ?_
      rotate_left
      · go_simp
        rfl
      refine hK.out _ _ ?_
      clear hK K
      refine done_ (by kernel_rfl) ?_
      go_end0
      exact FV.out _ _ ⟨⟨1 + m3, rfl⟩⟩
  have n10b : (nx.pos == 10) = false := by simpa using k10
  by_cases k8 : nx.pos = 8
  · rw [k8] at n0
    by_cases s1 : s.pos = 8
    · rw [show readsR p r s nx i = vlR r (p.extract r.bg i1) by unfold readsR vlR; rw [if_neg k3, if_neg k5, if_neg k10, if_pos (Or.inl k8), if_pos (by rw [s1, k8])]; subst hi1; rfl]
      have hn : 0 < r.ats.length := by rcases ha with h | h | h; exact h; exact absurd h.1 k5; exact absurd k8 (by first | exact h.2.1 | exact h.2.2.1 | exact h.2.2.2)
      obtain ⟨j, hj⟩ : ∃ j, r.ats.length - 1 = j := ⟨_, rfl⟩
      have HJ : Aside0 (r.ats.length - 1 = j) := Aside0.mk hj
      have hb := hbg (by rw [s1, k8]) (by omega)
      have hrun := fun W => slice_run (P := Tryd.prog) 9 p r.bg i1 (by omega) (by omega) W Tryd.underlying9
      obtain ⟨q, hq⟩ : ∃ q, p.extract r.bg i1 = q := ⟨_, rfl⟩
      rw [hq] at hrun ⊢
      rw [s1] at s0
      clear k3 k5 s1 n3b n5b ha hbg hq hi1 k10 n10b k8
      go_enter Tryd.func49, Tryd.ntmps49
      go_wp2
      go_quiet (fail)
      go_wp2
      have I2 := Aside0.mk (show RdAt (w.drewN nq) w0.heap.size b (fun _ => True) p r from HI.out.drewN nq)
      have T2 := Aside0.mk (show StKeep w (w.drewN nq) from StKeep.below (pw_below_drewN (Below.refl w.heap.size w) nq))
      have L2 := Aside0.mk (show Below w0.heap.size w0 (w.drewN nq) from pw_below_drewN HB.out nq)
      have N2 := Aside0.mk (StKeep.st T2.out HN.out)
      obtain ⟨w2, hw2⟩ : ∃ w2, w.drewN nq = w2 := ⟨_, rfl⟩
      rw [hw2] at I2 T2 L2 N2 ⊢
      obtain ⟨g, cap, u0, u1, y5, y0, y6, z0, z1, f0, f1, FN, FV⟩ := tail_facts I2.out (hn) T2.out L2.out j (by first | exact hj | exact HJ.out)
      have n3 : w2.cell? ⟨gn, 3, none⟩ = some (.string nx.attr) := (blk_cell N2.out 3).trans rfl
      have FN := Aside0.mk FN
      have FV := Aside0.mk FV
      have HLa := Aside0.mk (last_calls w2.drew b g cap _ y5 (hn) (by first | omega | (simp only [anR, bgR, List.length_append, List.length_singleton]; omega)))
      rw [show (r).ats.length - 1 = j from by first | exact hj | exact HJ.out] at HLa
      clear hw2
      refine start_ (n := 16) (S := fun w' => w'.cell? ⟨b, 0, none⟩ = some (.string p) ∧ w'.cell? ⟨b, 6, none⟩ = some (.int .i64 (r.bg : Nat))) (ds := [15]) #[false, false, false, false, false, false, false, false, false, false, false, false, false, false, false, false] (by kernel_rfl) rfl rfl ⟨y0, y6⟩ (fun hHeld => ?_)
      refine pure_ (i := 0) (N := some 79) (v := ?_) (a' := ?_) #[true, false, false, false, false, false, false, false, false, false, false, false, false, false, false, false] rfl rfl (by kernel_rfl) (fun _ _ _ h => h) (Or.inl ⟨by rfl, ?_⟩) ?_ ?_
      rotate_left
      · intro w'
        go_simp
        with_reducible rfl
      rotate_left
      · simp only [Act.put, List.setIfInBounds_toArray, List.set_cons_zero, List.set_cons_succ, i64_w, i32_w]
        rfl
      refine pure_ (i := 2) (N := some 81) (v := ?_) (a' := ?_) #[true, false, true, false, false, false, false, false, false, false, false, false, false, false, false, false] rfl rfl (by kernel_rfl) (fun _ _ _ h => h) (Or.inl ⟨by rfl, ?_⟩) ?_ ?_
      rotate_left
      · intro w'
        go_simp
        with_reducible rfl
      rotate_left
      · simp only [Act.put, List.setIfInBounds_toArray, List.set_cons_zero, List.set_cons_succ, i64_w, i32_w]
        rfl
      refine pure_ (i := 3) (N := some 82) (v := ?_) (a' := ?_) #[true, false, true, true, false, false, false, false, false, false, false, false, false, false, false, false] rfl rfl (by kernel_rfl) (fun _ _ _ h => h) (Or.inl ⟨by rfl, ?_⟩) ?_ ?_
      rotate_left
      · intro w'
        go_simp
        with_reducible rfl
      rotate_left
      · simp only [Act.put, List.setIfInBounds_toArray, List.set_cons_zero, List.set_cons_succ, i64_w, i32_w]
        rfl
      refine pure_ (i := 4) (N := some 83) (v := ?_) (a' := ?_) #[true, false, true, true, true, false, false, false, false, false, false, false, false, false, false, false] rfl rfl (by kernel_rfl) (fun _ _ _ h => h) (Or.inl ⟨by rfl, ?_⟩) ?_ ?_
      rotate_left
      · intro w'
        go_simp
        with_reducible rfl
      rotate_left
      · simp only [Act.put, List.setIfInBounds_toArray, List.set_cons_zero, List.set_cons_succ, i64_w, i32_w]
        rfl
      refine pure_ (i := 6) (N := some 85) (v := ?_) (a' := ?_) #[true, false, true, true, true, false, true, false, false, false, false, false, false, false, false, false] rfl rfl (by kernel_rfl) (fun _ _ _ h => h) (Or.inl ⟨by rfl, ?_⟩) ?_ ?_
      rotate_left
      · intro w'
        go_simp
        with_reducible rfl
      rotate_left
      · simp only [Act.put, List.setIfInBounds_toArray, List.set_cons_zero, List.set_cons_succ, i64_w, i32_w]
        rfl
      refine pure_ (i := 7) (N := some 86) (v := ?_) (a' := ?_) #[true, false, true, true, true, false, true, true, false, false, false, false, false, false, false, false] rfl rfl (by kernel_rfl) (fun _ _ _ h => h) (Or.inl ⟨by rfl, ?_⟩) ?_ ?_
      rotate_left
      · intro w'
        go_simp
        with_reducible rfl
      rotate_left
      · simp only [Act.put, List.setIfInBounds_toArray, List.set_cons_zero, List.set_cons_succ, i64_w, i32_w]
        rfl
      refine pure_ (i := 8) (N := some 87) (v := ?_) (a' := ?_) #[true, false, true, true, true, false, true, true, true, false, false, false, false, false, false, false] rfl rfl (by kernel_rfl) (fun _ _ _ h => h) (Or.inl ⟨by rfl, ?_⟩) ?_ ?_
      rotate_left
      · intro w'
        go_simp
        with_reducible rfl
      rotate_left
      · simp only [Act.put, List.setIfInBounds_toArray, List.set_cons_zero, List.set_cons_succ, i64_w, i32_w]
        rfl
      refine pure_ (i := 10) (N := some 89) (v := ?_) (a' := ?_) #[true, false, true, true, true, false, true, true, true, false, true, false, false, false, false, false] rfl rfl (by kernel_rfl) (fun _ _ _ h => h) (Or.inl ⟨by rfl, ?_⟩) ?_ ?_
      rotate_left
      · intro w'
        go_simp
        with_reducible rfl
      rotate_left
      · simp only [Act.put, List.setIfInBounds_toArray, List.set_cons_zero, List.set_cons_succ, i64_w, i32_w]
        rfl
      refine pure_ (i := 11) (N := some 90) (v := ?_) (a' := ?_) #[true, false, true, true, true, false, true, true, true, false, true, true, false, false, false, false] rfl rfl (by kernel_rfl) (fun _ _ _ h => h) (Or.inl ⟨by rfl, ?_⟩) ?_ ?_
      rotate_left
      · intro w'
        go_simp
        with_reducible rfl
      rotate_left
      · simp only [Act.put, List.setIfInBounds_toArray, List.set_cons_zero, List.set_cons_succ, i64_w, i32_w]
        rfl
      refine take_ (i := 5) (N := some 84) (v := ?_) (a' := ?_) #[true, false, true, true, true, true, true, true, true, false, true, true, false, false, false, false] rfl rfl (by kernel_rfl) (fun _ _ _ h => h) (Or.inl ⟨by rfl, ?_⟩) hHeld ?_ ?_
      rotate_left
      · rintro w' ⟨s0, s1⟩
        go_simp
        with_reducible rfl
      rotate_left
      · simp only [Act.put, List.setIfInBounds_toArray, List.set_cons_zero, List.set_cons_succ, i64_w, i32_w]
        rfl
      refine take_ (i := 9) (N := some 88) (v := ?_) (a' := ?_) #[true, false, true, true, true, true, true, true, true, true, true, true, false, false, false, false] rfl rfl (by kernel_rfl) (fun _ _ _ h => h) (Or.inl ⟨by rfl, ?_⟩) hHeld ?_ ?_
      rotate_left
      · rintro w' ⟨s0, s1⟩
        go_simp
        with_reducible rfl
      rotate_left
      · simp only [Act.put, List.setIfInBounds_toArray, List.set_cons_zero, List.set_cons_succ, i64_w, i32_w]
        rfl
      refine pure_ (i := 12) (N := some 91) (v := ?_) (a' := ?_) #[true, false, true, true, true, true, true, true, true, true, true, true, true, false, false, false] rfl rfl (by kernel_rfl) (fun _ _ _ h => h) (Or.inl ⟨by rfl, ?_⟩) ?_ ?_
      rotate_left
      · intro w'
        go_simp
        with_reducible rfl
      rotate_left
      · simp only [Act.put, List.setIfInBounds_toArray, List.set_cons_zero, List.set_cons_succ, i64_w, i32_w]
        rfl
      refine one_ (i := 1) (N := some 80) #[true, true, true, true, true, true, true, true, true, true, true, true, true, false, false, false] rfl rfl (by kernel_rfl) (by decide) (fun K hK => ?_)
      refine goes_ Tryd.func68 (by kernel_rfl) rfl #[.pointer (some ⟨b, 0, none⟩)] (by rfl) rfl rfl (by simp only [List.map_toArray, List.map_cons, List.map_nil]; rfl) ?_
      with_reducible refine (HLa.out).mono ?_
      rintro e w3 ⟨rfl, ⟨m3, rfl⟩⟩
      refine ⟨_, rfl, ?_⟩
      refine hK.out _ _ ⟨y0, y6⟩ (fun hHeld => ?_)
      clear hK K
      refine norm_ (a' := ?_) ?_ ?_
      rotate_left
      · show Act.put _ (some 80) _ = _
        simp only [Act.put, List.setIfInBounds_toArray, List.set_cons_zero, List.set_cons_succ, i64_w, i32_w]
        rfl
      refine pure_ (i := 13) (N := some 92) (v := ?_) (a' := ?_) #[true, true, true, true, true, true, true, true, true, true, true, true, true, true, false, false] rfl rfl (by kernel_rfl) (fun _ _ _ h => h) (Or.inl ⟨by rfl, ?_⟩) ?_ ?_
      rotate_left
      · intro w'
        go_simp
        with_reducible rfl
      rotate_left
      · simp only [Act.put, List.setIfInBounds_toArray, List.set_cons_zero, List.set_cons_succ, i64_w, i32_w]
        rfl
      refine pure_ (i := 14) (N := some 93) (v := ?_) (a' := ?_) #[true, true, true, true, true, true, true, true, true, true, true, true, true, true, true, false] rfl rfl (by kernel_rfl) (fun _ _ _ h => h) (Or.inl ⟨by rfl, ?_⟩) ?_ ?_
      rotate_left
      · intro w'
        go_simp
        with_reducible rfl
      rotate_left
      · simp only [Act.put, List.setIfInBounds_toArray, List.set_cons_zero, List.set_cons_succ, i64_w, i32_w]
        rfl
      refine last_ (i := 15) (N := none) #[true, true, true, true, true, true, true, true, true, true, true, true, true, true, true, true] rfl rfl (by kernel_rfl) (by decide) (fun K hK => ?_)
      refine skip_ (w1 := ?_) (by rfl) rfl ?_ ?_
      rotate_left
      · go_simp
        rfl
      refine hK.out _ _ ?_
      clear hK K
      refine done_ (by kernel_rfl) ?_
      go_end0
      exact FV.out _ _ ⟨⟨1 + m3, rfl⟩⟩
    · rw [show readsR p r s nx i = vlR (bgR r i1) (p.extract i1 i1) by unfold readsR vlR bgR; rw [if_neg k3, if_neg k5, if_neg k10, if_pos (Or.inl k8), if_neg (by rw [k8]; exact s1)]; subst hi1; rfl]
      have hn : 0 < r.ats.length := by rcases ha with h | h | h; exact h; exact absurd h.1 k5; exact absurd k8 (by first | exact h.2.1 | exact h.2.2.1 | exact h.2.2.2)
      obtain ⟨j, hj⟩ : ∃ j, r.ats.length - 1 = j := ⟨_, rfl⟩
      have HJ : Aside0 ((bgR r i1).ats.length - 1 = j) := Aside0.mk hj
      have hrun := fun W => slice_run (P := Tryd.prog) 9 p i1 i1 (by omega) (by omega) W Tryd.underlying9
      obtain ⟨q, hq⟩ : ∃ q, p.extract i1 i1 = q := ⟨_, rfl⟩
      rw [hq] at hrun ⊢
      have sb : (s.pos != 8) = true := by simpa using s1
      clear k3 k5 s1 n3b n5b ha hbg hq hi1 k10 n10b k8
      go_enter Tryd.func49, Tryd.ntmps49
      go_wp2
      go_quiet (fail)
      go_wp2
      have I2 := Aside0.mk (show RdAt ((w.drewN nq).setCell ⟨b, 6, none⟩ (.int .i64 (i1 : Int))) w0.heap.size b (fun _ => True) p (bgR r i1) from (HI.out.drewN nq).bg i1)
      have T2 := Aside0.mk (show StKeep w ((w.drewN nq).setCell ⟨b, 6, none⟩ (.int .i64 (i1 : Int))) from (StKeep.below (pw_below_drewN (Below.refl w.heap.size w) nq)).trans (StKeep.set (w := w.drewN nq) HCS.out (by decide)))
      have L2 := Aside0.mk (show Below w0.heap.size w0 ((w.drewN nq).setCell ⟨b, 6, none⟩ (.int .i64 (i1 : Int))) from (pw_below_drewN HB.out nq).setCell HBW.out _)
      have N2 := Aside0.mk (StKeep.st T2.out HN.out)
      obtain ⟨w2, hw2⟩ : ∃ w2, (w.drewN nq).setCell ⟨b, 6, none⟩ (.int .i64 (i1 : Int)) = w2 := ⟨_, rfl⟩
      rw [hw2] at I2 T2 L2 N2 ⊢
      obtain ⟨g, cap, u0, u1, y5, y0, y6, z0, z1, f0, f1, FN, FV⟩ := tail_facts I2.out (hn) T2.out L2.out j (by first | exact hj | exact HJ.out)
      have n3 : w2.cell? ⟨gn, 3, none⟩ = some (.string nx.attr) := (blk_cell N2.out 3).trans rfl
      have FN := Aside0.mk FN
      have FV := Aside0.mk FV
      have HLa := Aside0.mk (last_calls w2.drew b g cap _ y5 (hn) (by first | omega | (simp only [anR, bgR, List.length_append, List.length_singleton]; omega)))
      rw [show ((bgR r i1)).ats.length - 1 = j from by first | exact hj | exact HJ.out] at HLa
      clear hw2
      refine start_ (n := 16) (S := fun w' => w'.cell? ⟨b, 0, none⟩ = some (.string p) ∧ w'.cell? ⟨b, 6, none⟩ = some (.int .i64 (i1 : Nat))) (ds := [15]) #[false, false, false, false, false, false, false, false, false, false, false, false, false, false, false, false] (by kernel_rfl) rfl rfl ⟨y0, y6⟩ (fun hHeld => ?_)
      refine pure_ (i := 0) (N := some 79) (v := ?_) (a' := ?_) #[true, false, false, false, false, false, false, false, false, false, false, false, false, false, false, false] rfl rfl (by kernel_rfl) (fun _ _ _ h => h) (Or.inl ⟨by rfl, ?_⟩) ?_ ?_
      rotate_left
      · intro w'
        go_simp
        with_reducible rfl
      rotate_left
      · simp only [Act.put, List.setIfInBounds_toArray, List.set_cons_zero, List.set_cons_succ, i64_w, i32_w]
        rfl
      refine pure_ (i := 2) (N := some 81) (v := ?_) (a' := ?_) #[true, false, true, false, false, false, false, false, false, false, false, false, false, false, false, false] rfl rfl (by kernel_rfl) (fun _ _ _ h => h) (Or.inl ⟨by rfl, ?_⟩) ?_ ?_
      rotate_left
      · intro w'
        go_simp
        with_reducible rfl
      rotate_left
      · simp only [Act.put, List.setIfInBounds_toArray, List.set_cons_zero, List.set_cons_succ, i64_w, i32_w]
        rfl
      refine pure_ (i := 3) (N := some 82) (v := ?_) (a' := ?_) #[true, false, true, true, false, false, false, false, false, false, false, false, false, false, false, false] rfl rfl (by kernel_rfl) (fun _ _ _ h => h) (Or.inl ⟨by rfl, ?_⟩) ?_ ?_
      rotate_left
      · intro w'
        go_simp
        with_reducible rfl
      rotate_left
      · simp only [Act.put, List.setIfInBounds_toArray, List.set_cons_zero, List.set_cons_succ, i64_w, i32_w]
        rfl
      refine pure_ (i := 4) (N := some 83) (v := ?_) (a' := ?_) #[true, false, true, true, true, false, false, false, false, false, false, false, false, false, false, false] rfl rfl (by kernel_rfl) (fun _ _ _ h => h) (Or.inl ⟨by rfl, ?_⟩) ?_ ?_
      rotate_left
      · intro w'
        go_simp
        with_reducible rfl
      rotate_left
      · simp only [Act.put, List.setIfInBounds_toArray, List.set_cons_zero, List.set_cons_succ, i64_w, i32_w]
        rfl
      refine pure_ (i := 6) (N := some 85) (v := ?_) (a' := ?_) #[true, false, true, true, true, false, true, false, false, false, false, false, false, false, false, false] rfl rfl (by kernel_rfl) (fun _ _ _ h => h) (Or.inl ⟨by rfl, ?_⟩) ?_ ?_
      rotate_left
      · intro w'
        go_simp
        with_reducible rfl
      rotate_left
      · simp only [Act.put, List.setIfInBounds_toArray, List.set_cons_zero, List.set_cons_succ, i64_w, i32_w]
        rfl
      refine pure_ (i := 7) (N := some 86) (v := ?_) (a' := ?_) #[true, false, true, true, true, false, true, true, false, false, false, false, false, false, false, false] rfl rfl (by kernel_rfl) (fun _ _ _ h => h) (Or.inl ⟨by rfl, ?_⟩) ?_ ?_
      rotate_left
      · intro w'
        go_simp
        with_reducible rfl
      rotate_left
      · simp only [Act.put, List.setIfInBounds_toArray, List.set_cons_zero, List.set_cons_succ, i64_w, i32_w]
        rfl
      refine pure_ (i := 8) (N := some 87) (v := ?_) (a' := ?_) #[true, false, true, true, true, false, true, true, true, false, false, false, false, false, false, false] rfl rfl (by kernel_rfl) (fun _ _ _ h => h) (Or.inl ⟨by rfl, ?_⟩) ?_ ?_
      rotate_left
      · intro w'
        go_simp
        with_reducible rfl
      rotate_left
      · simp only [Act.put, List.setIfInBounds_toArray, List.set_cons_zero, List.set_cons_succ, i64_w, i32_w]
        rfl
      refine pure_ (i := 10) (N := some 89) (v := ?_) (a' := ?_) #[true, false, true, true, true, false, true, true, true, false, true, false, false, false, false, false] rfl rfl (by kernel_rfl) (fun _ _ _ h => h) (Or.inl ⟨by rfl, ?_⟩) ?_ ?_
      rotate_left
      · intro w'
        go_simp
        with_reducible rfl
      rotate_left
      · simp only [Act.put, List.setIfInBounds_toArray, List.set_cons_zero, List.set_cons_succ, i64_w, i32_w]
        rfl
      refine pure_ (i := 11) (N := some 90) (v := ?_) (a' := ?_) #[true, false, true, true, true, false, true, true, true, false, true, true, false, false, false, false] rfl rfl (by kernel_rfl) (fun _ _ _ h => h) (Or.inl ⟨by rfl, ?_⟩) ?_ ?_
      rotate_left
      · intro w'
        go_simp
        with_reducible rfl
      rotate_left
      · simp only [Act.put, List.setIfInBounds_toArray, List.set_cons_zero, List.set_cons_succ, i64_w, i32_w]
        rfl
      refine take_ (i := 5) (N := some 84) (v := ?_) (a' := ?_) #[true, false, true, true, true, true, true, true, true, false, true, true, false, false, false, false] rfl rfl (by kernel_rfl) (fun _ _ _ h => h) (Or.inl ⟨by rfl, ?_⟩) hHeld ?_ ?_
      rotate_left
      · rintro w' ⟨s0, s1⟩
        go_simp
        with_reducible rfl
      rotate_left
      · simp only [Act.put, List.setIfInBounds_toArray, List.set_cons_zero, List.set_cons_succ, i64_w, i32_w]
        rfl
      refine take_ (i := 9) (N := some 88) (v := ?_) (a' := ?_) #[true, false, true, true, true, true, true, true, true, true, true, true, false, false, false, false] rfl rfl (by kernel_rfl) (fun _ _ _ h => h) (Or.inl ⟨by rfl, ?_⟩) hHeld ?_ ?_
      rotate_left
      · rintro w' ⟨s0, s1⟩
        go_simp
        with_reducible rfl
      rotate_left
      · simp only [Act.put, List.setIfInBounds_toArray, List.set_cons_zero, List.set_cons_succ, i64_w, i32_w]
        rfl
      refine pure_ (i := 12) (N := some 91) (v := ?_) (a' := ?_) #[true, false, true, true, true, true, true, true, true, true, true, true, true, false, false, false] rfl rfl (by kernel_rfl) (fun _ _ _ h => h) (Or.inl ⟨by rfl, ?_⟩) ?_ ?_
      rotate_left
      · intro w'
        go_simp
        with_reducible rfl
      rotate_left
      · simp only [Act.put, List.setIfInBounds_toArray, List.set_cons_zero, List.set_cons_succ, i64_w, i32_w]
        rfl
      refine one_ (i := 1) (N := some 80) #[true, true, true, true, true, true, true, true, true, true, true, true, true, false, false, false] rfl rfl (by kernel_rfl) (by decide) (fun K hK => ?_)
      refine goes_ Tryd.func68 (by kernel_rfl) rfl #[.pointer (some ⟨b, 0, none⟩)] (by rfl) rfl rfl (by simp only [List.map_toArray, List.map_cons, List.map_nil]; rfl) ?_
      with_reducible refine (HLa.out).mono ?_
      rintro e w3 ⟨rfl, ⟨m3, rfl⟩⟩
      refine ⟨_, rfl, ?_⟩
      refine hK.out _ _ ⟨y0, y6⟩ (fun hHeld => ?_)
      clear hK K
      refine norm_ (a' := ?_) ?_ ?_
      rotate_left
      · show Act.put _ (some 80) _ = _
        simp only [Act.put, List.setIfInBounds_toArray, List.set_cons_zero, List.set_cons_succ, i64_w, i32_w]
        rfl
      refine pure_ (i := 13) (N := some 92) (v := ?_) (a' := ?_) #[true, true, true, true, true, true, true, true, true, true, true, true, true, true, false, false] rfl rfl (by kernel_rfl) (fun _ _ _ h => h) (Or.inl ⟨by rfl, ?_⟩) ?_ ?_
      rotate_left
      · intro w'
        go_simp
        with_reducible rfl
      rotate_left
      · simp only [Act.put, List.setIfInBounds_toArray, List.set_cons_zero, List.set_cons_succ, i64_w, i32_w]
        rfl
      refine pure_ (i := 14) (N := some 93) (v := ?_) (a' := ?_) #[true, true, true, true, true, true, true, true, true, true, true, true, true, true, true, false] rfl rfl (by kernel_rfl) (fun _ _ _ h => h) (Or.inl ⟨by rfl, ?_⟩) ?_ ?_
      rotate_left
      · intro w'
        go_simp
        with_reducible rfl
      rotate_left
      · simp only [Act.put, List.setIfInBounds_toArray, List.set_cons_zero, List.set_cons_succ, i64_w, i32_w]
        rfl
      refine last_ (i := 15) (N := none) #[true, true, true, true, true, true, true, true, true, true, true, true, true, true, true, true] rfl rfl (by kernel_rfl) (by decide) (fun K hK => ?_)
      refine skip_ (w1 := ?_) (by rfl) rfl ?_ ?_
      rotate_left
      · go_simp
        rfl
      refine hK.out _ _ ?_
      clear hK K
      refine done_ (by kernel_rfl) ?_
      go_end0
      exact FV.out _ _ ⟨⟨1 + m3, rfl⟩⟩
  have n8b : (nx.pos == 8) = false := by simpa using k8
  by_cases k9 : nx.pos = 9
  · rw [k9] at n0
    by_cases s1 : s.pos = 9
    · rw [show readsR p r s nx i = vlR r (p.extract r.bg i1) by unfold readsR vlR; rw [if_neg k3, if_neg k5, if_neg k10, if_pos (Or.inr k9), if_pos (by rw [s1, k9])]; subst hi1; rfl]
      have hn : 0 < r.ats.length := by rcases ha with h | h | h; exact h; exact absurd h.1 k5; exact absurd k9 (by first | exact h.2.1 | exact h.2.2.1 | exact h.2.2.2)
      obtain ⟨j, hj⟩ : ∃ j, r.ats.length - 1 = j := ⟨_, rfl⟩
      have HJ : Aside0 (r.ats.length - 1 = j) := Aside0.mk hj
      have hb := hbg (by rw [s1, k9]) (by omega)
      have hrun := fun W => slice_run (P := Tryd.prog) 9 p r.bg i1 (by omega) (by omega) W Tryd.underlying9
      obtain ⟨q, hq⟩ : ∃ q, p.extract r.bg i1 = q := ⟨_, rfl⟩
      rw [hq] at hrun ⊢
      rw [s1] at s0
      clear k3 k5 s1 n3b n5b ha hbg hq hi1 k10 n10b k9
      go_enter Tryd.func49, Tryd.ntmps49
      go_wp2
      go_quiet (fail)
      go_wp2
      have I2 := Aside0.mk (show RdAt (w.drewN nq) w0.heap.size b (fun _ => True) p r from HI.out.drewN nq)
      have T2 := Aside0.mk (show StKeep w (w.drewN nq) from StKeep.below (pw_below_drewN (Below.refl w.heap.size w) nq))
      have L2 := Aside0.mk (show Below w0.heap.size w0 (w.drewN nq) from pw_below_drewN HB.out nq)
      have N2 := Aside0.mk (StKeep.st T2.out HN.out)
      obtain ⟨w2, hw2⟩ : ∃ w2, w.drewN nq = w2 := ⟨_, rfl⟩
      rw [hw2] at I2 T2 L2 N2 ⊢
      obtain ⟨g, cap, u0, u1, y5, y0, y6, z0, z1, f0, f1, FN, FV⟩ := tail_facts I2.out (hn) T2.out L2.out j (by first | exact hj | exact HJ.out)
      have n3 : w2.cell? ⟨gn, 3, none⟩ = some (.string nx.attr) := (blk_cell N2.out 3).trans rfl
      have FN := Aside0.mk FN
      have FV := Aside0.mk FV
      have HLa := Aside0.mk (last_calls w2.drew b g cap _ y5 (hn) (by first | omega | (simp only [anR, bgR, List.length_append, List.length_singleton]; omega)))
      rw [show (r).ats.length - 1 = j from by first | exact hj | exact HJ.out] at HLa
      clear hw2
      refine start_ (n := 16) (S := fun w' => w'.cell? ⟨b, 0, none⟩ = some (.string p) ∧ w'.cell? ⟨b, 6, none⟩ = some (.int .i64 (r.bg : Nat))) (ds := [15]) #[false, false, false, false, false, false, false, false, false, false, false, false, false, false, false, false] (by kernel_rfl) rfl rfl ⟨y0, y6⟩ (fun hHeld => ?_)
      refine pure_ (i := 0) (N := some 79) (v := ?_) (a' := ?_) #[true, false, false, false, false, false, false, false, false, false, false, false, false, false, false, false] rfl rfl (by kernel_rfl) (fun _ _ _ h => h) (Or.inl ⟨by rfl, ?_⟩) ?_ ?_
      rotate_left
      · intro w'
        go_simp
        with_reducible rfl
      rotate_left
      · simp only [Act.put, List.setIfInBounds_toArray, List.set_cons_zero, List.set_cons_succ, i64_w, i32_w]
        rfl
      refine pure_ (i := 2) (N := some 81) (v := ?_) (a' := ?_) #[true, false, true, false, false, false, false, false, false, false, false, false, false, false, false, false] rfl rfl (by kernel_rfl) (fun _ _ _ h => h) (Or.inl ⟨by rfl, ?_⟩) ?_ ?_
      rotate_left
      · intro w'
        go_simp
        with_reducible rfl
      rotate_left
      · simp only [Act.put, List.setIfInBounds_toArray, List.set_cons_zero, List.set_cons_succ, i64_w, i32_w]
        rfl
      refine pure_ (i := 3) (N := some 82) (v := ?_) (a' := ?_) #[true, false, true, true, false, false, false, false, false, false, false, false, false, false, false, false] rfl rfl (by kernel_rfl) (fun _ _ _ h => h) (Or.inl ⟨by rfl, ?_⟩) ?_ ?_
      rotate_left
      · intro w'
        go_simp
        with_reducible rfl
      rotate_left
      · simp only [Act.put, List.setIfInBounds_toArray, List.set_cons_zero, List.set_cons_succ, i64_w, i32_w]
        rfl
      refine pure_ (i := 4) (N := some 83) (v := ?_) (a' := ?_) #[true, false, true, true, true, false, false, false, false, false, false, false, false, false, false, false] rfl rfl (by kernel_rfl) (fun _ _ _ h => h) (Or.inl ⟨by rfl, ?_⟩) ?_ ?_
      rotate_left
      · intro w'
        go_simp
        with_reducible rfl
      rotate_left
      · simp only [Act.put, List.setIfInBounds_toArray, List.set_cons_zero, List.set_cons_succ, i64_w, i32_w]
        rfl
      refine pure_ (i := 6) (N := some 85) (v := ?_) (a' := ?_) #[true, false, true, true, true, false, true, false, false, false, false, false, false, false, false, false] rfl rfl (by kernel_rfl) (fun _ _ _ h => h) (Or.inl ⟨by rfl, ?_⟩) ?_ ?_
      rotate_left
      · intro w'
        go_simp
        with_reducible rfl
      rotate_left
      · simp only [Act.put, List.setIfInBounds_toArray, List.set_cons_zero, List.set_cons_succ, i64_w, i32_w]
        rfl
      refine pure_ (i := 7) (N := some 86) (v := ?_) (a' := ?_) #[true, false, true, true, true, false, true, true, false, false, false, false, false, false, false, false] rfl rfl (by kernel_rfl) (fun _ _ _ h => h) (Or.inl ⟨by rfl, ?_⟩) ?_ ?_
      rotate_left
      · intro w'
        go_simp
        with_reducible rfl
      rotate_left
      · simp only [Act.put, List.setIfInBounds_toArray, List.set_cons_zero, List.set_cons_succ, i64_w, i32_w]
        rfl
      refine pure_ (i := 8) (N := some 87) (v := ?_) (a' := ?_) #[true, false, true, true, true, false, true, true, true, false, false, false, false, false, false, false] rfl rfl (by kernel_rfl) (fun _ _ _ h => h) (Or.inl ⟨by rfl, ?_⟩) ?_ ?_
      rotate_left
      · intro w'
        go_simp
        with_reducible rfl
      rotate_left
      · simp only [Act.put, List.setIfInBounds_toArray, List.set_cons_zero, List.set_cons_succ, i64_w, i32_w]
        rfl
      refine pure_ (i := 10) (N := some 89) (v := ?_) (a' := ?_) #[true, false, true, true, true, false, true, true, true, false, true, false, false, false, false, false] rfl rfl (by kernel_rfl) (fun _ _ _ h => h) (Or.inl ⟨by rfl, ?_⟩) ?_ ?_
      rotate_left
      · intro w'
        go_simp
        with_reducible rfl
      rotate_left
      · simp only [Act.put, List.setIfInBounds_toArray, List.set_cons_zero, List.set_cons_succ, i64_w, i32_w]
        rfl
      refine pure_ (i := 11) (N := some 90) (v := ?_) (a' := ?_) #[true, false, true, true, true, false, true, true, true, false, true, true, false, false, false, false] rfl rfl (by kernel_rfl) (fun _ _ _ h => h) (Or.inl ⟨by rfl, ?_⟩) ?_ ?_
      rotate_left
      · intro w'
        go_simp
        with_reducible rfl
      rotate_left
      · simp only [Act.put, List.setIfInBounds_toArray, List.set_cons_zero, List.set_cons_succ, i64_w, i32_w]
        rfl
      refine take_ (i := 5) (N := some 84) (v := ?_) (a' := ?_) #[true, false, true, true, true, true, true, true, true, false, true, true, false, false, false, false] rfl rfl (by kernel_rfl) (fun _ _ _ h => h) (Or.inl ⟨by rfl, ?_⟩) hHeld ?_ ?_
      rotate_left
      · rintro w' ⟨s0, s1⟩
        go_simp
        with_reducible rfl
      rotate_left
      · simp only [Act.put, List.setIfInBounds_toArray, List.set_cons_zero, List.set_cons_succ, i64_w, i32_w]
        rfl
      refine take_ (i := 9) (N := some 88) (v := ?_) (a' := ?_) #[true, false, true, true, true, true, true, true, true, true, true, true, false, false, false, false] rfl rfl (by kernel_rfl) (fun _ _ _ h => h) (Or.inl ⟨by rfl, ?_⟩) hHeld ?_ ?_
      rotate_left
      · rintro w' ⟨s0, s1⟩
        go_simp
        with_reducible rfl
      rotate_left
      · simp only [Act.put, List.setIfInBounds_toArray, List.set_cons_zero, List.set_cons_succ, i64_w, i32_w]
        rfl
      refine pure_ (i := 12) (N := some 91) (v := ?_) (a' := ?_) #[true, false, true, true, true, true, true, true, true, true, true, true, true, false, false, false] rfl rfl (by kernel_rfl) (fun _ _ _ h => h) (Or.inl ⟨by rfl, ?_⟩) ?_ ?_
      rotate_left
      · intro w'
        go_simp
        with_reducible rfl
      rotate_left
      · simp only [Act.put, List.setIfInBounds_toArray, List.set_cons_zero, List.set_cons_succ, i64_w, i32_w]
        rfl
      refine one_ (i := 1) (N := some 80) #[true, true, true, true, true, true, true, true, true, true, true, true, true, false, false, false] rfl rfl (by kernel_rfl) (by decide) (fun K hK => ?_)
      refine goes_ Tryd.func68 (by kernel_rfl) rfl #[.pointer (some ⟨b, 0, none⟩)] (by rfl) rfl rfl (by simp only [List.map_toArray, List.map_cons, List.map_nil]; rfl) ?_
      with_reducible refine (HLa.out).mono ?_
      rintro e w3 ⟨rfl, ⟨m3, rfl⟩⟩
      refine ⟨_, rfl, ?_⟩
      refine hK.out _ _ ⟨y0, y6⟩ (fun hHeld => ?_)
      clear hK K
      refine norm_ (a' := ?_) ?_ ?_
      rotate_left
      · show Act.put _ (some 80) _ = _
        simp only [Act.put, List.setIfInBounds_toArray, List.set_cons_zero, List.set_cons_succ, i64_w, i32_w]
        rfl
      refine pure_ (i := 13) (N := some 92) (v := ?_) (a' := ?_) #[true, true, true, true, true, true, true, true, true, true, true, true, true, true, false, false] rfl rfl (by kernel_rfl) (fun _ _ _ h => h) (Or.inl ⟨by rfl, ?_⟩) ?_ ?_
      rotate_left
      · intro w'
        go_simp
        with_reducible rfl
      rotate_left
      · simp only [Act.put, List.setIfInBounds_toArray, List.set_cons_zero, List.set_cons_succ, i64_w, i32_w]
        rfl
      refine pure_ (i := 14) (N := some 93) (v := ?_) (a' := ?_) #[true, true, true, true, true, true, true, true, true, true, true, true, true, true, true, false] rfl rfl (by kernel_rfl) (fun _ _ _ h => h) (Or.inl ⟨by rfl, ?_⟩) ?_ ?_
      rotate_left
      · intro w'
        go_simp
        with_reducible rfl
      rotate_left
      · simp only [Act.put, List.setIfInBounds_toArray, List.set_cons_zero, List.set_cons_succ, i64_w, i32_w]
        rfl
      refine last_ (i := 15) (N := none) #[true, true, true, true, true, true, true, true, true, true, true, true, true, true, true, true] rfl rfl (by kernel_rfl) (by decide) (fun K hK => ?_)
      refine skip_ (w1 := ?_) (by rfl) rfl ?_ ?_
      rotate_left
      · go_simp
        rfl
      refine hK.out _ _ ?_
      clear hK K
      refine done_ (by kernel_rfl) ?_
      go_end0
      exact FV.out _ _ ⟨⟨1 + m3, rfl⟩⟩
    · rw [show readsR p r s nx i = vlR (bgR r i1) (p.extract i1 i1) by unfold readsR vlR bgR; rw [if_neg k3, if_neg k5, if_neg k10, if_pos (Or.inr k9), if_neg (by rw [k9]; exact s1)]; subst hi1; rfl]
      have hn : 0 < r.ats.length := by rcases ha with h | h | h; exact h; exact absurd h.1 k5; exact absurd k9 (by first | exact h.2.1 | exact h.2.2.1 | exact h.2.2.2)
      obtain ⟨j, hj⟩ : ∃ j, r.ats.length - 1 = j := ⟨_, rfl⟩
      have HJ : Aside0 ((bgR r i1).ats.length - 1 = j) := Aside0.mk hj
      have hrun := fun W => slice_run (P := Tryd.prog) 9 p i1 i1 (by omega) (by omega) W Tryd.underlying9
      obtain ⟨q, hq⟩ : ∃ q, p.extract i1 i1 = q := ⟨_, rfl⟩
      rw [hq] at hrun ⊢
      have sb : (s.pos != 9) = true := by simpa using s1
      clear k3 k5 s1 n3b n5b ha hbg hq hi1 k10 n10b k9
      go_enter Tryd.func49, Tryd.ntmps49
      go_wp2
      go_quiet (fail)
      go_wp2
      have I2 := Aside0.mk (show RdAt ((w.drewN nq).setCell ⟨b, 6, none⟩ (.int .i64 (i1 : Int))) w0.heap.size b (fun _ => True) p (bgR r i1) from (HI.out.drewN nq).bg i1)
      have T2 := Aside0.mk (show StKeep w ((w.drewN nq).setCell ⟨b, 6, none⟩ (.int .i64 (i1 : Int))) from (StKeep.below (pw_below_drewN (Below.refl w.heap.size w) nq)).trans (StKeep.set (w := w.drewN nq) HCS.out (by decide)))
      have L2 := Aside0.mk (show Below w0.heap.size w0 ((w.drewN nq).setCell ⟨b, 6, none⟩ (.int .i64 (i1 : Int))) from (pw_below_drewN HB.out nq).setCell HBW.out _)
      have N2 := Aside0.mk (StKeep.st T2.out HN.out)
      obtain ⟨w2, hw2⟩ : ∃ w2, (w.drewN nq).setCell ⟨b, 6, none⟩ (.int .i64 (i1 : Int)) = w2 := ⟨_, rfl⟩
      rw [hw2] at I2 T2 L2 N2 ⊢
      obtain ⟨g, cap, u0, u1, y5, y0, y6, z0, z1, f0, f1, FN, FV⟩ := tail_facts I2.out (hn) T2.out L2.out j (by first | exact hj | exact HJ.out)
      have n3 : w2.cell? ⟨gn, 3, none⟩ = some (.string nx.attr) := (blk_cell N2.out 3).trans rfl
      have FN := Aside0.mk FN
      have FV := Aside0.mk FV
      have HLa := Aside0.mk (last_calls w2.drew b g cap _ y5 (hn) (by first | omega | (simp only [anR, bgR, List.length_append, List.length_singleton]; omega)))
      rw [show ((bgR r i1)).ats.length - 1 = j from by first | exact hj | exact HJ.out] at HLa
      clear hw2
      refine start_ (n := 16) (S := fun w' => w'.cell? ⟨b, 0, none⟩ = some (.string p) ∧ w'.cell? ⟨b, 6, none⟩ = some (.int .i64 (i1 : Nat))) (ds := [15]) #[false, false, false, false, false, false, false, false, false, false, false, false, false, false, false, false] (by kernel_rfl) rfl rfl ⟨y0, y6⟩ (fun hHeld => ?_)
      refine pure_ (i := 0) (N := some 79) (v := ?_) (a' := ?_) #[true, false, false, false, false, false, false, false, false, false, false, false, false, false, false, false] rfl rfl (by kernel_rfl) (fun _ _ _ h => h) (Or.inl ⟨by rfl, ?_⟩) ?_ ?_
      rotate_left
      · intro w'
        go_simp
        with_reducible rfl
      rotate_left
      · simp only [Act.put, List.setIfInBounds_toArray, List.set_cons_zero, List.set_cons_succ, i64_w, i32_w]
        rfl
      refine pure_ (i := 2) (N := some 81) (v := ?_) (a' := ?_) #[true, false, true, false, false, false, false, false, false, false, false, false, false, false, false, false] rfl rfl (by kernel_rfl) (fun _ _ _ h => h) (Or.inl ⟨by rfl, ?_⟩) ?_ ?_
      rotate_left
      · intro w'
        go_simp
        with_reducible rfl
      rotate_left
      · simp only [Act.put, List.setIfInBounds_toArray, List.set_cons_zero, List.set_cons_succ, i64_w, i32_w]
        rfl
      refine pure_ (i := 3) (N := some 82) (v := ?_) (a' := ?_) #[true, false, true, true, false, false, false, false, false, false, false, false, false, false, false, false] rfl rfl (by kernel_rfl) (fun _ _ _ h => h) (Or.inl ⟨by rfl, ?_⟩) ?_ ?_
      rotate_left
      · intro w'
        go_simp
        with_reducible rfl
      rotate_left
      · simp only [Act.put, List.setIfInBounds_toArray, List.set_cons_zero, List.set_cons_succ, i64_w, i32_w]
        rfl
      refine pure_ (i := 4) (N := some 83) (v := ?_) (a' := ?_) #[true, false, true, true, true, false, false, false, false, false, false, false, false, false, false, false] rfl rfl (by kernel_rfl) (fun _ _ _ h => h) (Or.inl ⟨by rfl, ?_⟩) ?_ ?_
      rotate_left
      · intro w'
        go_simp
        with_reducible rfl
      rotate_left
      · simp only [Act.put, List.setIfInBounds_toArray, List.set_cons_zero, List.set_cons_succ, i64_w, i32_w]
        rfl
      refine pure_ (i := 6) (N := some 85) (v := ?_) (a' := ?_) #[true, false, true, true, true, false, true, false, false, false, false, false, false, false, false, false] rfl rfl (by kernel_rfl) (fun _ _ _ h => h) (Or.inl ⟨by rfl, ?_⟩) ?_ ?_
      rotate_left
      · intro w'
        go_simp
        with_reducible rfl
      rotate_left
      · simp only [Act.put, List.setIfInBounds_toArray, List.set_cons_zero, List.set_cons_succ, i64_w, i32_w]
        rfl
      refine pure_ (i := 7) (N := some 86) (v := ?_) (a' := ?_) #[true, false, true, true, true, false, true, true, false, false, false, false, false, false, false, false] rfl rfl (by kernel_rfl) (fun _ _ _ h => h) (Or.inl ⟨by rfl, ?_⟩) ?_ ?_
      rotate_left
      · intro w'
        go_simp
        with_reducible rfl
      rotate_left
      · simp only [Act.put, List.setIfInBounds_toArray, List.set_cons_zero, List.set_cons_succ, i64_w, i32_w]
        rfl
      refine pure_ (i := 8) (N := some 87) (v := ?_) (a' := ?_) #[true, false, true, true, true, false, true, true, true, false, false, false, false, false, false, false] rfl rfl (by kernel_rfl) (fun _ _ _ h => h) (Or.inl ⟨by rfl, ?_⟩) ?_ ?_
      rotate_left
      · intro w'
        go_simp
        with_reducible rfl
      rotate_left
      · simp only [Act.put, List.setIfInBounds_toArray, List.set_cons_zero, List.set_cons_succ, i64_w, i32_w]
        rfl
      refine pure_ (i := 10) (N := some 89) (v := ?_) (a' := ?_) #[true, false, true, true, true, false, true, true, true, false, true, false, false, false, false, false] rfl rfl (by kernel_rfl) (fun _ _ _ h => h) (Or.inl ⟨by rfl, ?_⟩) ?_ ?_
      rotate_left
      · intro w'
        go_simp
        with_reducible rfl
      rotate_left
      · simp only [Act.put, List.setIfInBounds_toArray, List.set_cons_zero, List.set_cons_succ, i64_w, i32_w]
        rfl
      refine pure_ (i := 11) (N := some 90) (v := ?_) (a' := ?_) #[true, false, true, true, true, false, true, true, true, false, true, true, false, false, false, false] rfl rfl (by kernel_rfl) (fun _ _ _ h => h) (Or.inl ⟨by rfl, ?_⟩) ?_ ?_
      rotate_left
      · intro w'
        go_simp
        with_reducible rfl
      rotate_left
      · simp only [Act.put, List.setIfInBounds_toArray, List.set_cons_zero, List.set_cons_succ, i64_w, i32_w]
        rfl
      refine take_ (i := 5) (N := some 84) (v := ?_) (a' := ?_) #[true, false, true, true, true, true, true, true, true, false, true, true, false, false, false, false] rfl rfl (by kernel_rfl) (fun _ _ _ h => h) (Or.inl ⟨by rfl, ?_⟩) hHeld ?_ ?_
      rotate_left
      · rintro w' ⟨s0, s1⟩
        go_simp
        with_reducible rfl
      rotate_left
      · simp only [Act.put, List.setIfInBounds_toArray, List.set_cons_zero, List.set_cons_succ, i64_w, i32_w]
        rfl
      refine take_ (i := 9) (N := some 88) (v := ?_) (a' := ?_) #[true, false, true, true, true, true, true, true, true, true, true, true, false, false, false, false] rfl rfl (by kernel_rfl) (fun _ _ _ h => h) (Or.inl ⟨by rfl, ?_⟩) hHeld ?_ ?_
      rotate_left
      · rintro w' ⟨s0, s1⟩
        go_simp
        with_reducible rfl
      rotate_left
      · simp only [Act.put, List.setIfInBounds_toArray, List.set_cons_zero, List.set_cons_succ, i64_w, i32_w]
        rfl
      refine pure_ (i := 12) (N := some 91) (v := ?_) (a' := ?_) #[true, false, true, true, true, true, true, true, true, true, true, true, true, false, false, false] rfl rfl (by kernel_rfl) (fun _ _ _ h => h) (Or.inl ⟨by rfl, ?_⟩) ?_ ?_
      rotate_left
      · intro w'
        go_simp
        with_reducible rfl
      rotate_left
      · simp only [Act.put, List.setIfInBounds_toArray, List.set_cons_zero, List.set_cons_succ, i64_w, i32_w]
        rfl
      refine one_ (i := 1) (N := some 80) #[true, true, true, true, true, true, true, true, true, true, true, true, true, false, false, false] rfl rfl (by kernel_rfl) (by decide) (fun K hK => ?_)
      refine goes_ Tryd.func68 (by kernel_rfl) rfl #[.pointer (some ⟨b, 0, none⟩)] (by rfl) rfl rfl (by simp only [List.map_toArray, List.map_cons, List.map_nil]; rfl) ?_
      with_reducible refine (HLa.out).mono ?_
      rintro e w3 ⟨rfl, ⟨m3, rfl⟩⟩
      refine ⟨_, rfl, ?_⟩
      refine hK.out _ _ ⟨y0, y6⟩ (fun hHeld => ?_)
      clear hK K
      refine norm_ (a' := ?_) ?_ ?_
      rotate_left
      · show Act.put _ (some 80) _ = _
        simp only [Act.put, List.setIfInBounds_toArray, List.set_cons_zero, List.set_cons_succ, i64_w, i32_w]
        rfl
      refine pure_ (i := 13) (N := some 92) (v := ?_) (a' := ?_) #[true, true, true, true, true, true, true, true, true, true, true, true, true, true, false, false] rfl rfl (by kernel_rfl) (fun _ _ _ h => h) (Or.inl ⟨by rfl, ?_⟩) ?_ ?_
      rotate_left
      · intro w'
        go_simp
        with_reducible rfl
      rotate_left
      · simp only [Act.put, List.setIfInBounds_toArray, List.set_cons_zero, List.set_cons_succ, i64_w, i32_w]
        rfl
      refine pure_ (i := 14) (N := some 93) (v := ?_) (a' := ?_) #[true, true, true, true, true, true, true, true, true, true, true, true, true, true, true, false] rfl rfl (by kernel_rfl) (fun _ _ _ h => h) (Or.inl ⟨by rfl, ?_⟩) ?_ ?_
      rotate_left
      · intro w'
        go_simp
        with_reducible rfl
      rotate_left
      · simp only [Act.put, List.setIfInBounds_toArray, List.set_cons_zero, List.set_cons_succ, i64_w, i32_w]
        rfl
      refine last_ (i := 15) (N := none) #[true, true, true, true, true, true, true, true, true, true, true, true, true, true, true, true] rfl rfl (by kernel_rfl) (by decide) (fun K hK => ?_)
      refine skip_ (w1 := ?_) (by rfl) rfl ?_ ?_
      rotate_left
      · go_simp
        rfl
      refine hK.out _ _ ?_
      clear hK K
      refine done_ (by kernel_rfl) ?_
      go_end0
      exact FV.out _ _ ⟨⟨1 + m3, rfl⟩⟩
  have n9b : (nx.pos == 9) = false := by simpa using k9
  rw [show readsR p r s nx i = r by unfold readsR; rw [if_neg k3, if_neg k5, if_neg k10, if_neg (by omega)]]
  clear k3 k5 k10 k8 k9 ha hbg hwi hi1
  go_enter Tryd.func49, Tryd.ntmps49
  go_wp2
  go_quiet (fail)
  go_wp2
  go_end0
  exact ⟨rfl, HI.out.drewN _, pw_below_drewN HB.out _, StKeep.below (pw_below_drewN (Below.refl _ _) nq), fun _ _ _ h => absurd trivial h⟩
end Go.Proofs.YtgbaakopneldaaaDoor.Tk
end
