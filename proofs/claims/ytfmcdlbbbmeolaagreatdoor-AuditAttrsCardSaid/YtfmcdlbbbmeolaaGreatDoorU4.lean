/- tok's reader's reads: walked. tok's ends, remarks: walked. -/
import Derived.Test.YtfmcdlbbbmeolaaGreatDoorU0
import Derived.Test.YtfmcdlbbbmeolaaGreatDoorU3
section
namespace Go.Proofs.YtfmcdlbbbmeolaaGreatDoor.Tk
open Go.RowKit Go.Proofs.YtfmcdlbbbmeolaaGreatDoor.XK Go.Proofs.YtfmcdlbbbmeolaaGreatDoorW.PrintWords Go.Proofs.YtfmcdlbbbmeolaaGreatDoorW.PrintLast Go.Proofs.YtfmcdlbbbmeolaaGreatDoorW.PrintMore
open Go.Proofs.YtfmcdlbbbmeolaaGreatDoor.Refs (lowN lowByte_calls decL decode_calls)
attribute [local go_sem ↓] Go.wp_at_zero Go.wp_at_succ
set_option linter.unusedVariables false
set_option linter.unusedSimpArgs false
set_option maxRecDepth 100000
set_option maxHeartbeats 6400000 in
theorem rreads_calls (w0 w : World) (b gs gn : Nat) (p : ByteArray) (r : Rd) (s nx : St) (i : Nat) (hB : Below w0.heap.size w0 w) (hI : RdAt w w0.heap.size b (fun _ => True) p r) (hs : StAt w gs s) (hn : StAt w gn nx)
    (h1 : i < p.size) (hp : p.size ≤ 65536) (hm : r.ats.length ≤ 900000) (ha : 0 < r.ats.length ∨ (nx.pos = 5 ∧ s.pos ≠ 5) ∨ (nx.pos ≠ 5 ∧ nx.pos ≠ 8 ∧ nx.pos ≠ 9 ∧ nx.pos ≠ 10)) (hbg : s.pos = nx.pos → (nx.pos = 8 ∨ nx.pos = 9 ∨ nx.pos = 10) → r.bg ≤ i) :
    Calls Tryz.prog 110 #[.pointer (some ⟨b, 0, none⟩), .pointer (some ⟨gs, 0, none⟩), .pointer (some ⟨gn, 0, none⟩), .int .i64 (i : Int)] w (TextP w0 w b (fun _ => True) p (readsR p r s nx i)) := by
  have s0 : w.cell? ⟨gs, 0, none⟩ = some (.int .i64 s.pos) := (blk_cell hs 0).trans rfl
  have n0 : w.cell? ⟨gn, 0, none⟩ = some (.int .i64 nx.pos) := (blk_cell hn 0).trans rfl
  have HI := Aside0.mk hI
  have HB := Aside0.mk hB
  have HN := Aside0.mk hn
  obtain ⟨x0, _, _, _, x6, ⟨A5, c5, x5⟩, _, hf, cs, hcs⟩ := hI.cells
  have f5 := hf 5
  have f6 := hf 6
  have HCS := Aside0.mk hcs
  have HBW := Aside0.mk (show w0.heap.size ≤ b from hI.1)
  clear hI hB hs hn hf hcs
  by_cases k3 : nx.pos = 3
  · rw [show readsR p r s nx i = { r with ats := [] } by unfold readsR; rw [if_pos k3]]
    rw [k3] at n0
    clear k3 ha hbg
    go_enter Tryz.func110, Tryz.ntmps110
    go_wp2
    go_quiet (fail)
    go_wp2
    go_end0
    exact ⟨rfl, RdAt.nil (HI.out.drewN _), (pw_below_drewN HB.out _).setCell HBW.out _, (StKeep.below (pw_below_drewN (Below.refl _ _) nq)).trans (StKeep.set (w := w.drewN nq) HCS.out (by decide)), fun _ _ _ h => absurd trivial h⟩
  have n3b : (nx.pos == 3) = false := by simpa using k3
  by_cases k5 : nx.pos = 5
  · rw [k5] at n0
    by_cases s5 : s.pos = 5
    · rw [show readsR p r s nx i = nmR r nx.attr by unfold readsR nmR; rw [if_neg k3, if_pos k5, if_pos s5]]
      have hn : 0 < r.ats.length := by rcases ha with h | h | h; exact h; exact absurd s5 h.2; exact absurd k5 h.1
      obtain ⟨j, hj⟩ : ∃ j, r.ats.length - 1 = j := ⟨_, rfl⟩
      have HJ := Aside0.mk hj
      rw [s5] at s0
      clear k3 k5 s5 n3b ha hbg
      go_enter Tryz.func110, Tryz.ntmps110
      go_wp2
      go_quiet (fail)
      go_wp2
      have I2 := Aside0.mk (show RdAt (w.drewN nq) w0.heap.size b (fun _ => True) p r from HI.out.drewN nq)
      have T2 := Aside0.mk (show StKeep w (w.drewN nq) from StKeep.below (pw_below_drewN (Below.refl w.heap.size w) nq))
      have L2 := Aside0.mk (show Below w0.heap.size w0 (w.drewN nq) from pw_below_drewN HB.out nq)
      have N2 := Aside0.mk (StKeep.st T2.out HN.out)
      obtain ⟨w2, hw2⟩ : ∃ w2, w.drewN nq = w2 := ⟨_, rfl⟩
      rw [hw2] at I2 T2 L2 N2 ⊢
      obtain ⟨g, cap, u0, u1, y5, y0, y6, z0, z1, f0, f1, FN, FV⟩ := tail_facts I2.out (hn) T2.out L2.out j (by first | exact hj | exact HJ.out)
      have n3 : w2.cell? ⟨gn, 3, none⟩ = some (.string nx.attr) := (blk_cell N2.out 3).trans rfl
      have FN := Aside0.mk FN
      have FV := Aside0.mk FV
      have HLa := Aside0.mk (last_calls w2.drew b g cap _ y5 (hn) (by first | omega | (simp only [anR, bgR, List.length_append, List.length_singleton]; omega)))
      rw [show (r).ats.length - 1 = j from by first | exact hj | exact HJ.out] at HLa
      clear hw2
      refine start_ (n := 9) (S := fun w' => w'.cell? ⟨gn, 3, none⟩ = some (.string nx.attr)) (ds := [8]) #[false, false, false, false, false, false, false, false, false] (by kernel_rfl) rfl rfl (n3) (fun hHeld => ?_)
      refine pS 0 40 #[true, false, false, false, false, false, false, false, false] ?_
      refine pS 2 42 #[true, false, true, false, false, false, false, false, false] ?_
      refine pS 3 43 #[true, false, true, true, false, false, false, false, false] ?_
      refine pS 4 44 #[true, false, true, true, true, false, false, false, false] ?_
      refine tS 5 45 #[true, false, true, true, true, true, false, false, false] hHeld ?_
      refine one_ (i := 1) (N := some 41) #[true, true, true, true, true, true, false, false, false] rfl rfl (by kernel_rfl) (by decide) (fun K hK => ?_)
      refine goes_ Tryz.func166 (by kernel_rfl) rfl #[.pointer (some ⟨b, 0, none⟩)] (by rfl) rfl rfl (by simp only [List.map_toArray, List.map_cons, List.map_nil]; rfl) ?_
      with_reducible refine (HLa.out).mono ?_
      rintro e w3 ⟨rfl, ⟨m3, rfl⟩⟩
      refine ⟨_, rfl, ?_⟩
      refine hK.out _ _ (n3) (fun hHeld => ?_)
      clear hK K
      refine norm_ (a' := ?_) ?_ ?_
      rotate_left
      · show Act.put _ (some 41) _ = _
        simp only [Act.put, zA, zZ, zS, i64_w, i32_w]
        rfl
      refine pS 6 46 #[true, true, true, true, true, true, true, false, false] ?_
      refine pS 7 47 #[true, true, true, true, true, true, true, true, false] ?_
      refine last_ (i := 8) (N := none) #[true, true, true, true, true, true, true, true, true] rfl rfl (by kernel_rfl) (by decide) (fun K hK => ?_)
      refine skip_ (w1 := ?_) (by rfl) rfl ?_ ?_
      rotate_left
      · go_simp
        rfl
      refine hK.out _ _ ?_
      clear hK K
      refine done_ (by kernel_rfl) ?_
      go_end0
      exact FN.out _ _ ⟨⟨1 + m3, rfl⟩⟩
    · rw [show readsR p r s nx i = nmR (anR r) nx.attr by unfold readsR nmR anR; rw [if_neg k3, if_pos k5, if_neg s5]]
      obtain ⟨j, hj⟩ : ∃ j, (anR r).ats.length - 1 = j := ⟨_, rfl⟩
      have HJ := Aside0.mk hj
      have sb : (s.pos != 5) = true := by simpa using s5
      obtain ⟨hb0, v0, v1, hb1, hS, hR⟩ := HI.out
      obtain ⟨A1, c1, rfl⟩ := Kd.R_slice hR
      have q5 : w.cell? ⟨b, 5, none⟩ = some (.slice A1 r.ats.length c1) := (blk_cell hb1 5).trans rfl
      have HB1 := Aside0.mk hb1
      have HS := Aside0.mk hS
      have HR := Aside0.mk hR
      clear k3 k5 s5 n3b ha hbg x5 hb0 hb1 hS hR
      go_enter Tryz.func110, Tryz.ntmps110
      go_wp2
      go_quiet (fail)
      go_wp2_with (at_builtin; refine Kd.R_append k39 (w0 := w0) (W := w.drewN nq) w0.heap.size rfl (.tmp 34) (.tmp 36) 35 39 (.agg #[(.string ⟨#[]⟩), (.string ⟨#[]⟩)]) 32 rfl Tryz.underlying35 infoAttr rfl (by decide) (by decide) (.slice A1 r.ats.length c1) r.ats ⟨⟨#[]⟩, ⟨#[]⟩⟩ [.string ⟨#[]⟩, .string ⟨#[]⟩] (fun _ => True) (fun _ => False) rfl rfl (k39_mkM _ _ _ (⟨⟨#[]⟩, ⟨#[]⟩⟩ : S39)) (fun q hq => hq.elim) (fun _ _ => trivial) (Kd.R_drewN HR.out nq) (pw_below_drewN HB.out nq) (pw_below_drewN HB.out nq).size (by omega) ?_; intro v9 w9 hR9 hB9 hgr hat; obtain ⟨A9, c9, e9⟩ := Kd.R_slice hR9; rw [List.length_append, List.length_singleton] at e9; subst e9; have b9 := blk_grown (w := w.drewN nq) HB1.out hgr (Kd.R_ne HR.out HB1.out (by decide)); have c9' : w9.cell? ⟨b, 5, none⟩ = some (.slice A1 r.ats.length c1) := (blk_cell b9 5).trans rfl; have f9 : w9.frozen? ⟨b, 5, none⟩ = false := blk_frozen b9 5; have R9 := Aside0.mk hR9; have L9 := Aside0.mk hB9; have G9 := Aside0.mk hgr; have A9' := Aside0.mk hat; have B9 := Aside0.mk b9; clear hR9 hB9 hgr hat b9)
      have I2 := Aside0.mk (show RdAt (w9.setCell ⟨b, 5, none⟩ (.slice A9 (r.ats.length + 1) c9)) w0.heap.size b (fun _ => True) p (anR r) from show RdAt (w9.setCell ⟨b, 5, none⟩ (.slice A9 (r.ats.length + 1) c9)) w0.heap.size b (fun _ => True) p (anR r) from ⟨HBW.out, _, _, blk_set B9.out 5 _, Kd.S_set (Kd.S_after (Kd.S_drewN HS.out nq) G9.out A9'.out) B9.out (by decide) 5 _, Kd.R_set R9.out B9.out (by decide) 5 _⟩)
      have T2 := Aside0.mk (show StKeep w (w9.setCell ⟨b, 5, none⟩ (.slice A9 (r.ats.length + 1) c9)) from ((StKeep.below (pw_below_drewN (Below.refl w.heap.size w) nq)).trans (StKeep.grown G9.out (fun q hq => Kd.R_typed (Kd.R_drewN HR.out nq) q hq) (by decide))).trans (StKeep.set B9.out (by decide)))
      have L2 := Aside0.mk (show Below w0.heap.size w0 (w9.setCell ⟨b, 5, none⟩ (.slice A9 (r.ats.length + 1) c9)) from L9.out.setCell HBW.out _)
      have N2 := Aside0.mk (StKeep.st T2.out HN.out)
      obtain ⟨w2, hw2⟩ : ∃ w2, w9.setCell ⟨b, 5, none⟩ (.slice A9 (r.ats.length + 1) c9) = w2 := ⟨_, rfl⟩
      rw [hw2] at I2 T2 L2 N2 ⊢
      obtain ⟨g, cap, u0, u1, y5, y0, y6, z0, z1, f0, f1, FN, FV⟩ := tail_facts I2.out (by simp [anR]) T2.out L2.out j (by first | exact hj | exact HJ.out)
      have n3 : w2.cell? ⟨gn, 3, none⟩ = some (.string nx.attr) := (blk_cell N2.out 3).trans rfl
      have FN := Aside0.mk FN
      have FV := Aside0.mk FV
      have HLa := Aside0.mk (last_calls w2.drew b g cap _ y5 (by simp [anR]) (by first | omega | (simp only [anR, bgR, List.length_append, List.length_singleton]; omega)))
      rw [show ((anR r)).ats.length - 1 = j from by first | exact hj | exact HJ.out] at HLa
      clear hw2
      refine start_ (n := 9) (S := fun w' => w'.cell? ⟨gn, 3, none⟩ = some (.string nx.attr)) (ds := [8]) #[false, false, false, false, false, false, false, false, false] (by kernel_rfl) rfl rfl (n3) (fun hHeld => ?_)
      refine pS 0 40 #[true, false, false, false, false, false, false, false, false] ?_
      refine pS 2 42 #[true, false, true, false, false, false, false, false, false] ?_
      refine pS 3 43 #[true, false, true, true, false, false, false, false, false] ?_
      refine pS 4 44 #[true, false, true, true, true, false, false, false, false] ?_
      refine tS 5 45 #[true, false, true, true, true, true, false, false, false] hHeld ?_
      refine one_ (i := 1) (N := some 41) #[true, true, true, true, true, true, false, false, false] rfl rfl (by kernel_rfl) (by decide) (fun K hK => ?_)
      refine goes_ Tryz.func166 (by kernel_rfl) rfl #[.pointer (some ⟨b, 0, none⟩)] (by rfl) rfl rfl (by simp only [List.map_toArray, List.map_cons, List.map_nil]; rfl) ?_
      with_reducible refine (HLa.out).mono ?_
      rintro e w3 ⟨rfl, ⟨m3, rfl⟩⟩
      refine ⟨_, rfl, ?_⟩
      refine hK.out _ _ (n3) (fun hHeld => ?_)
      clear hK K
      refine norm_ (a' := ?_) ?_ ?_
      rotate_left
      · show Act.put _ (some 41) _ = _
        simp only [Act.put, zA, zZ, zS, i64_w, i32_w]
        rfl
      refine pS 6 46 #[true, true, true, true, true, true, true, false, false] ?_
      refine pS 7 47 #[true, true, true, true, true, true, true, true, false] ?_
      refine last_ (i := 8) (N := none) #[true, true, true, true, true, true, true, true, true] rfl rfl (by kernel_rfl) (by decide) (fun K hK => ?_)
      refine skip_ (w1 := ?_) (by rfl) rfl ?_ ?_
      rotate_left
      · go_simp
        rfl
      refine hK.out _ _ ?_
      clear hK K
      refine done_ (by kernel_rfl) ?_
      go_end0
      exact FN.out _ _ ⟨⟨1 + m3, rfl⟩⟩
  have n5b : (nx.pos == 5) = false := by simpa using k5
  obtain ⟨i1, hi1⟩ : ∃ i1, i + 1 = i1 := ⟨_, rfl⟩
  have hwi : IntKind.i64.wrap ((i : Int) + 1) = (i1 : Int) := by rw [show (i : Int) + 1 = (i1 : Int) by omega]; exact w64 _ (by omega)
  by_cases k10 : nx.pos = 10
  · rw [k10] at n0
    by_cases s1 : s.pos = 10
    · rw [show readsR p r s nx i = vlR r (p.extract r.bg i1) by unfold readsR vlR; rw [if_neg k3, if_neg k5, if_pos k10, if_pos s1]; subst hi1; rfl]
      have hn : 0 < r.ats.length := by rcases ha with h | h | h; exact h; exact absurd h.1 k5; exact absurd k10 (by first | exact h.2.1 | exact h.2.2.1 | exact h.2.2.2)
      obtain ⟨j, hj⟩ : ∃ j, r.ats.length - 1 = j := ⟨_, rfl⟩
      have HJ : Aside0 (r.ats.length - 1 = j) := Aside0.mk hj
      have hb := hbg (by rw [s1, k10]) (by omega)
      have hrun := fun W => slice_run (P := Tryz.prog) 9 p r.bg i1 (by omega) (by omega) W Tryz.underlying9
      obtain ⟨q, hq⟩ : ∃ q, p.extract r.bg i1 = q := ⟨_, rfl⟩
      rw [hq] at hrun ⊢
      rw [s1] at s0
      clear k3 k5 s1 n3b n5b ha hbg hq hi1 k10
      go_enter Tryz.func110, Tryz.ntmps110
      go_wp2
      go_quiet (fail)
      go_wp2
      have I2 := Aside0.mk (show RdAt (w.drewN nq) w0.heap.size b (fun _ => True) p r from HI.out.drewN nq)
      have T2 := Aside0.mk (show StKeep w (w.drewN nq) from StKeep.below (pw_below_drewN (Below.refl w.heap.size w) nq))
      have L2 := Aside0.mk (show Below w0.heap.size w0 (w.drewN nq) from pw_below_drewN HB.out nq)
      have N2 := Aside0.mk (StKeep.st T2.out HN.out)
      obtain ⟨w2, hw2⟩ : ∃ w2, w.drewN nq = w2 := ⟨_, rfl⟩
      rw [hw2] at I2 T2 L2 N2 ⊢
      obtain ⟨g, cap, u0, u1, y5, y0, y6, z0, z1, f0, f1, FN, FV⟩ := tail_facts I2.out (hn) T2.out L2.out j (by first | exact hj | exact HJ.out)
      have n3 : w2.cell? ⟨gn, 3, none⟩ = some (.string nx.attr) := (blk_cell N2.out 3).trans rfl
      have FN := Aside0.mk FN
      have FV := Aside0.mk FV
      have HLa := Aside0.mk (last_calls w2.drew b g cap _ y5 (hn) (by first | omega | (simp only [anR, bgR, List.length_append, List.length_singleton]; omega)))
      rw [show (r).ats.length - 1 = j from by first | exact hj | exact HJ.out] at HLa
      clear hw2
      refine start_ (n := 16) (S := fun w' => w'.cell? ⟨b, 0, none⟩ = some (.string p) ∧ w'.cell? ⟨b, 6, none⟩ = some (.int .i64 (r.bg : Nat))) (ds := [15]) #[false, false, false, false, false, false, false, false, false, false, false, false, false, false, false, false] (by kernel_rfl) rfl rfl ⟨y0, y6⟩ (fun hHeld => ?_)
      refine pS 0 55 #[true, false, false, false, false, false, false, false, false, false, false, false, false, false, false, false] ?_
      refine pS 2 57 #[true, false, true, false, false, false, false, false, false, false, false, false, false, false, false, false] ?_
      refine pS 3 58 #[true, false, true, true, false, false, false, false, false, false, false, false, false, false, false, false] ?_
      refine pS 4 59 #[true, false, true, true, true, false, false, false, false, false, false, false, false, false, false, false] ?_
      refine pS 6 61 #[true, false, true, true, true, false, true, false, false, false, false, false, false, false, false, false] ?_
      refine pS 7 62 #[true, false, true, true, true, false, true, true, false, false, false, false, false, false, false, false] ?_
      refine pS 8 63 #[true, false, true, true, true, false, true, true, true, false, false, false, false, false, false, false] ?_
      refine pS 10 65 #[true, false, true, true, true, false, true, true, true, false, true, false, false, false, false, false] ?_
      refine pS 11 66 #[true, false, true, true, true, false, true, true, true, false, true, true, false, false, false, false] ?_
      refine take_ (i := 5) (N := some 60) (v := ?_) (a' := ?_) #[true, false, true, true, true, true, true, true, true, false, true, true, false, false, false, false] rfl rfl (by kernel_rfl) (fun _ _ _ h => h) (Or.inl ⟨by rfl, ?_⟩) hHeld ?_ ?_
      rotate_left
      · rintro w' ⟨s0, s1⟩
        go_simp
        with_reducible rfl
      rotate_left
      · simp only [Act.put, zA, zZ, zS, i64_w, i32_w]
        rfl
      refine take_ (i := 9) (N := some 64) (v := ?_) (a' := ?_) #[true, false, true, true, true, true, true, true, true, true, true, true, false, false, false, false] rfl rfl (by kernel_rfl) (fun _ _ _ h => h) (Or.inl ⟨by rfl, ?_⟩) hHeld ?_ ?_
      rotate_left
      · rintro w' ⟨s0, s1⟩
        go_simp
        with_reducible rfl
      rotate_left
      · simp only [Act.put, zA, zZ, zS, i64_w, i32_w]
        rfl
      refine pS 12 67 #[true, false, true, true, true, true, true, true, true, true, true, true, true, false, false, false] ?_
      refine one_ (i := 1) (N := some 56) #[true, true, true, true, true, true, true, true, true, true, true, true, true, false, false, false] rfl rfl (by kernel_rfl) (by decide) (fun K hK => ?_)
      refine goes_ Tryz.func166 (by kernel_rfl) rfl #[.pointer (some ⟨b, 0, none⟩)] (by rfl) rfl rfl (by simp only [List.map_toArray, List.map_cons, List.map_nil]; rfl) ?_
      with_reducible refine (HLa.out).mono ?_
      rintro e w3 ⟨rfl, ⟨m3, rfl⟩⟩
      refine ⟨_, rfl, ?_⟩
      refine hK.out _ _ ⟨y0, y6⟩ (fun hHeld => ?_)
      clear hK K
      refine norm_ (a' := ?_) ?_ ?_
      rotate_left
      · show Act.put _ (some 56) _ = _
        simp only [Act.put, zA, zZ, zS, i64_w, i32_w]
        rfl
      refine pS 13 68 #[true, true, true, true, true, true, true, true, true, true, true, true, true, true, false, false] ?_
      refine pS 14 69 #[true, true, true, true, true, true, true, true, true, true, true, true, true, true, true, false] ?_
      refine last_ (i := 15) (N := none) #[true, true, true, true, true, true, true, true, true, true, true, true, true, true, true, true] rfl rfl (by kernel_rfl) (by decide) (fun K hK => ?_)
      refine skip_ (w1 := ?_) (by rfl) rfl ?_ ?_
      rotate_left
      · go_simp
        rfl
      refine hK.out _ _ ?_
      clear hK K
      refine done_ (by kernel_rfl) ?_
      go_end0
      exact FV.out _ _ ⟨⟨1 + m3, rfl⟩⟩
    · rw [show readsR p r s nx i = vlR (bgR r i) (p.extract i i1) by unfold readsR vlR bgR; rw [if_neg k3, if_neg k5, if_pos k10, if_neg s1]; subst hi1; rfl]
      have hn : 0 < r.ats.length := by rcases ha with h | h | h; exact h; exact absurd h.1 k5; exact absurd k10 (by first | exact h.2.1 | exact h.2.2.1 | exact h.2.2.2)
      obtain ⟨j, hj⟩ : ∃ j, r.ats.length - 1 = j := ⟨_, rfl⟩
      have HJ : Aside0 ((bgR r i).ats.length - 1 = j) := Aside0.mk hj
      have hrun := fun W => slice_run (P := Tryz.prog) 9 p i i1 (by omega) (by omega) W Tryz.underlying9
      obtain ⟨q, hq⟩ : ∃ q, p.extract i i1 = q := ⟨_, rfl⟩
      rw [hq] at hrun ⊢
      have sb : (s.pos != 10) = true := by simpa using s1
      clear k3 k5 s1 n3b n5b ha hbg hq hi1 k10
      go_enter Tryz.func110, Tryz.ntmps110
      go_wp2
      go_quiet (fail)
      go_wp2
      have I2 := Aside0.mk (show RdAt ((w.drewN nq).setCell ⟨b, 6, none⟩ (.int .i64 (i : Int))) w0.heap.size b (fun _ => True) p (bgR r i) from (HI.out.drewN nq).bg i)
      have T2 := Aside0.mk (show StKeep w ((w.drewN nq).setCell ⟨b, 6, none⟩ (.int .i64 (i : Int))) from (StKeep.below (pw_below_drewN (Below.refl w.heap.size w) nq)).trans (StKeep.set (w := w.drewN nq) HCS.out (by decide)))
      have L2 := Aside0.mk (show Below w0.heap.size w0 ((w.drewN nq).setCell ⟨b, 6, none⟩ (.int .i64 (i : Int))) from (pw_below_drewN HB.out nq).setCell HBW.out _)
      have N2 := Aside0.mk (StKeep.st T2.out HN.out)
      obtain ⟨w2, hw2⟩ : ∃ w2, (w.drewN nq).setCell ⟨b, 6, none⟩ (.int .i64 (i : Int)) = w2 := ⟨_, rfl⟩
      rw [hw2] at I2 T2 L2 N2 ⊢
      obtain ⟨g, cap, u0, u1, y5, y0, y6, z0, z1, f0, f1, FN, FV⟩ := tail_facts I2.out (hn) T2.out L2.out j (by first | exact hj | exact HJ.out)
      have n3 : w2.cell? ⟨gn, 3, none⟩ = some (.string nx.attr) := (blk_cell N2.out 3).trans rfl
      have FN := Aside0.mk FN
      have FV := Aside0.mk FV
      have HLa := Aside0.mk (last_calls w2.drew b g cap _ y5 (hn) (by first | omega | (simp only [anR, bgR, List.length_append, List.length_singleton]; omega)))
      rw [show ((bgR r i)).ats.length - 1 = j from by first | exact hj | exact HJ.out] at HLa
      clear hw2
      refine start_ (n := 16) (S := fun w' => w'.cell? ⟨b, 0, none⟩ = some (.string p) ∧ w'.cell? ⟨b, 6, none⟩ = some (.int .i64 (i : Nat))) (ds := [15]) #[false, false, false, false, false, false, false, false, false, false, false, false, false, false, false, false] (by kernel_rfl) rfl rfl ⟨y0, y6⟩ (fun hHeld => ?_)
      refine pS 0 55 #[true, false, false, false, false, false, false, false, false, false, false, false, false, false, false, false] ?_
      refine pS 2 57 #[true, false, true, false, false, false, false, false, false, false, false, false, false, false, false, false] ?_
      refine pS 3 58 #[true, false, true, true, false, false, false, false, false, false, false, false, false, false, false, false] ?_
      refine pS 4 59 #[true, false, true, true, true, false, false, false, false, false, false, false, false, false, false, false] ?_
      refine pS 6 61 #[true, false, true, true, true, false, true, false, false, false, false, false, false, false, false, false] ?_
      refine pS 7 62 #[true, false, true, true, true, false, true, true, false, false, false, false, false, false, false, false] ?_
      refine pS 8 63 #[true, false, true, true, true, false, true, true, true, false, false, false, false, false, false, false] ?_
      refine pS 10 65 #[true, false, true, true, true, false, true, true, true, false, true, false, false, false, false, false] ?_
      refine pS 11 66 #[true, false, true, true, true, false, true, true, true, false, true, true, false, false, false, false] ?_
      refine take_ (i := 5) (N := some 60) (v := ?_) (a' := ?_) #[true, false, true, true, true, true, true, true, true, false, true, true, false, false, false, false] rfl rfl (by kernel_rfl) (fun _ _ _ h => h) (Or.inl ⟨by rfl, ?_⟩) hHeld ?_ ?_
      rotate_left
      · rintro w' ⟨s0, s1⟩
        go_simp
        with_reducible rfl
      rotate_left
      · simp only [Act.put, zA, zZ, zS, i64_w, i32_w]
        rfl
      refine take_ (i := 9) (N := some 64) (v := ?_) (a' := ?_) #[true, false, true, true, true, true, true, true, true, true, true, true, false, false, false, false] rfl rfl (by kernel_rfl) (fun _ _ _ h => h) (Or.inl ⟨by rfl, ?_⟩) hHeld ?_ ?_
      rotate_left
      · rintro w' ⟨s0, s1⟩
        go_simp
        with_reducible rfl
      rotate_left
      · simp only [Act.put, zA, zZ, zS, i64_w, i32_w]
        rfl
      refine pS 12 67 #[true, false, true, true, true, true, true, true, true, true, true, true, true, false, false, false] ?_
      refine one_ (i := 1) (N := some 56) #[true, true, true, true, true, true, true, true, true, true, true, true, true, false, false, false] rfl rfl (by kernel_rfl) (by decide) (fun K hK => ?_)
      refine goes_ Tryz.func166 (by kernel_rfl) rfl #[.pointer (some ⟨b, 0, none⟩)] (by rfl) rfl rfl (by simp only [List.map_toArray, List.map_cons, List.map_nil]; rfl) ?_
      with_reducible refine (HLa.out).mono ?_
      rintro e w3 ⟨rfl, ⟨m3, rfl⟩⟩
      refine ⟨_, rfl, ?_⟩
      refine hK.out _ _ ⟨y0, y6⟩ (fun hHeld => ?_)
      clear hK K
      refine norm_ (a' := ?_) ?_ ?_
      rotate_left
      · show Act.put _ (some 56) _ = _
        simp only [Act.put, zA, zZ, zS, i64_w, i32_w]
        rfl
      refine pS 13 68 #[true, true, true, true, true, true, true, true, true, true, true, true, true, true, false, false] ?_
      refine pS 14 69 #[true, true, true, true, true, true, true, true, true, true, true, true, true, true, true, false] ?_
      refine last_ (i := 15) (N := none) #[true, true, true, true, true, true, true, true, true, true, true, true, true, true, true, true] rfl rfl (by kernel_rfl) (by decide) (fun K hK => ?_)
      refine skip_ (w1 := ?_) (by rfl) rfl ?_ ?_
      rotate_left
      · go_simp
        rfl
      refine hK.out _ _ ?_
      clear hK K
      refine done_ (by kernel_rfl) ?_
      go_end0
      exact FV.out _ _ ⟨⟨1 + m3, rfl⟩⟩
  have n10b : (nx.pos == 10) = false := by simpa using k10
  by_cases k8 : nx.pos = 8
  · rw [k8] at n0
    by_cases s1 : s.pos = 8
    · rw [show readsR p r s nx i = vlR r (p.extract r.bg i1) by unfold readsR vlR; rw [if_neg k3, if_neg k5, if_neg k10, if_pos (Or.inl k8), if_pos (by rw [s1, k8])]; subst hi1; rfl]
      have hn : 0 < r.ats.length := by rcases ha with h | h | h; exact h; exact absurd h.1 k5; exact absurd k8 (by first | exact h.2.1 | exact h.2.2.1 | exact h.2.2.2)
      obtain ⟨j, hj⟩ : ∃ j, r.ats.length - 1 = j := ⟨_, rfl⟩
      have HJ : Aside0 (r.ats.length - 1 = j) := Aside0.mk hj
      have hb := hbg (by rw [s1, k8]) (by omega)
      have hrun := fun W => slice_run (P := Tryz.prog) 9 p r.bg i1 (by omega) (by omega) W Tryz.underlying9
      obtain ⟨q, hq⟩ : ∃ q, p.extract r.bg i1 = q := ⟨_, rfl⟩
      rw [hq] at hrun ⊢
      rw [s1] at s0
      clear k3 k5 s1 n3b n5b ha hbg hq hi1 k10 n10b k8
      go_enter Tryz.func110, Tryz.ntmps110
      go_wp2
      go_quiet (fail)
      go_wp2
      have I2 := Aside0.mk (show RdAt (w.drewN nq) w0.heap.size b (fun _ => True) p r from HI.out.drewN nq)
      have T2 := Aside0.mk (show StKeep w (w.drewN nq) from StKeep.below (pw_below_drewN (Below.refl w.heap.size w) nq))
      have L2 := Aside0.mk (show Below w0.heap.size w0 (w.drewN nq) from pw_below_drewN HB.out nq)
      have N2 := Aside0.mk (StKeep.st T2.out HN.out)
      obtain ⟨w2, hw2⟩ : ∃ w2, w.drewN nq = w2 := ⟨_, rfl⟩
      rw [hw2] at I2 T2 L2 N2 ⊢
      obtain ⟨g, cap, u0, u1, y5, y0, y6, z0, z1, f0, f1, FN, FV⟩ := tail_facts I2.out (hn) T2.out L2.out j (by first | exact hj | exact HJ.out)
      have n3 : w2.cell? ⟨gn, 3, none⟩ = some (.string nx.attr) := (blk_cell N2.out 3).trans rfl
      have FN := Aside0.mk FN
      have FV := Aside0.mk FV
      have HLa := Aside0.mk (last_calls w2.drew b g cap _ y5 (hn) (by first | omega | (simp only [anR, bgR, List.length_append, List.length_singleton]; omega)))
      rw [show (r).ats.length - 1 = j from by first | exact hj | exact HJ.out] at HLa
      clear hw2
      refine start_ (n := 16) (S := fun w' => w'.cell? ⟨b, 0, none⟩ = some (.string p) ∧ w'.cell? ⟨b, 6, none⟩ = some (.int .i64 (r.bg : Nat))) (ds := [15]) #[false, false, false, false, false, false, false, false, false, false, false, false, false, false, false, false] (by kernel_rfl) rfl rfl ⟨y0, y6⟩ (fun hHeld => ?_)
      refine pS 0 79 #[true, false, false, false, false, false, false, false, false, false, false, false, false, false, false, false] ?_
      refine pS 2 81 #[true, false, true, false, false, false, false, false, false, false, false, false, false, false, false, false] ?_
      refine pS 3 82 #[true, false, true, true, false, false, false, false, false, false, false, false, false, false, false, false] ?_
      refine pS 4 83 #[true, false, true, true, true, false, false, false, false, false, false, false, false, false, false, false] ?_
      refine pS 6 85 #[true, false, true, true, true, false, true, false, false, false, false, false, false, false, false, false] ?_
      refine pS 7 86 #[true, false, true, true, true, false, true, true, false, false, false, false, false, false, false, false] ?_
      refine pS 8 87 #[true, false, true, true, true, false, true, true, true, false, false, false, false, false, false, false] ?_
      refine pS 10 89 #[true, false, true, true, true, false, true, true, true, false, true, false, false, false, false, false] ?_
      refine pS 11 90 #[true, false, true, true, true, false, true, true, true, false, true, true, false, false, false, false] ?_
      refine take_ (i := 5) (N := some 84) (v := ?_) (a' := ?_) #[true, false, true, true, true, true, true, true, true, false, true, true, false, false, false, false] rfl rfl (by kernel_rfl) (fun _ _ _ h => h) (Or.inl ⟨by rfl, ?_⟩) hHeld ?_ ?_
      rotate_left
      · rintro w' ⟨s0, s1⟩
        go_simp
        with_reducible rfl
      rotate_left
      · simp only [Act.put, zA, zZ, zS, i64_w, i32_w]
        rfl
      refine take_ (i := 9) (N := some 88) (v := ?_) (a' := ?_) #[true, false, true, true, true, true, true, true, true, true, true, true, false, false, false, false] rfl rfl (by kernel_rfl) (fun _ _ _ h => h) (Or.inl ⟨by rfl, ?_⟩) hHeld ?_ ?_
      rotate_left
      · rintro w' ⟨s0, s1⟩
        go_simp
        with_reducible rfl
      rotate_left
      · simp only [Act.put, zA, zZ, zS, i64_w, i32_w]
        rfl
      refine pS 12 91 #[true, false, true, true, true, true, true, true, true, true, true, true, true, false, false, false] ?_
      refine one_ (i := 1) (N := some 80) #[true, true, true, true, true, true, true, true, true, true, true, true, true, false, false, false] rfl rfl (by kernel_rfl) (by decide) (fun K hK => ?_)
      refine goes_ Tryz.func166 (by kernel_rfl) rfl #[.pointer (some ⟨b, 0, none⟩)] (by rfl) rfl rfl (by simp only [List.map_toArray, List.map_cons, List.map_nil]; rfl) ?_
      with_reducible refine (HLa.out).mono ?_
      rintro e w3 ⟨rfl, ⟨m3, rfl⟩⟩
      refine ⟨_, rfl, ?_⟩
      refine hK.out _ _ ⟨y0, y6⟩ (fun hHeld => ?_)
      clear hK K
      refine norm_ (a' := ?_) ?_ ?_
      rotate_left
      · show Act.put _ (some 80) _ = _
        simp only [Act.put, zA, zZ, zS, i64_w, i32_w]
        rfl
      refine pS 13 92 #[true, true, true, true, true, true, true, true, true, true, true, true, true, true, false, false] ?_
      refine pS 14 93 #[true, true, true, true, true, true, true, true, true, true, true, true, true, true, true, false] ?_
      refine last_ (i := 15) (N := none) #[true, true, true, true, true, true, true, true, true, true, true, true, true, true, true, true] rfl rfl (by kernel_rfl) (by decide) (fun K hK => ?_)
      refine skip_ (w1 := ?_) (by rfl) rfl ?_ ?_
      rotate_left
      · go_simp
        rfl
      refine hK.out _ _ ?_
      clear hK K
      refine done_ (by kernel_rfl) ?_
      go_end0
      exact FV.out _ _ ⟨⟨1 + m3, rfl⟩⟩
    · rw [show readsR p r s nx i = vlR (bgR r i1) (p.extract i1 i1) by unfold readsR vlR bgR; rw [if_neg k3, if_neg k5, if_neg k10, if_pos (Or.inl k8), if_neg (by rw [k8]; exact s1)]; subst hi1; rfl]
      have hn : 0 < r.ats.length := by rcases ha with h | h | h; exact h; exact absurd h.1 k5; exact absurd k8 (by first | exact h.2.1 | exact h.2.2.1 | exact h.2.2.2)
      obtain ⟨j, hj⟩ : ∃ j, r.ats.length - 1 = j := ⟨_, rfl⟩
      have HJ : Aside0 ((bgR r i1).ats.length - 1 = j) := Aside0.mk hj
      have hrun := fun W => slice_run (P := Tryz.prog) 9 p i1 i1 (by omega) (by omega) W Tryz.underlying9
      obtain ⟨q, hq⟩ : ∃ q, p.extract i1 i1 = q := ⟨_, rfl⟩
      rw [hq] at hrun ⊢
      have sb : (s.pos != 8) = true := by simpa using s1
      clear k3 k5 s1 n3b n5b ha hbg hq hi1 k10 n10b k8
      go_enter Tryz.func110, Tryz.ntmps110
      go_wp2
      go_quiet (fail)
      go_wp2
      have I2 := Aside0.mk (show RdAt ((w.drewN nq).setCell ⟨b, 6, none⟩ (.int .i64 (i1 : Int))) w0.heap.size b (fun _ => True) p (bgR r i1) from (HI.out.drewN nq).bg i1)
      have T2 := Aside0.mk (show StKeep w ((w.drewN nq).setCell ⟨b, 6, none⟩ (.int .i64 (i1 : Int))) from (StKeep.below (pw_below_drewN (Below.refl w.heap.size w) nq)).trans (StKeep.set (w := w.drewN nq) HCS.out (by decide)))
      have L2 := Aside0.mk (show Below w0.heap.size w0 ((w.drewN nq).setCell ⟨b, 6, none⟩ (.int .i64 (i1 : Int))) from (pw_below_drewN HB.out nq).setCell HBW.out _)
      have N2 := Aside0.mk (StKeep.st T2.out HN.out)
      obtain ⟨w2, hw2⟩ : ∃ w2, (w.drewN nq).setCell ⟨b, 6, none⟩ (.int .i64 (i1 : Int)) = w2 := ⟨_, rfl⟩
      rw [hw2] at I2 T2 L2 N2 ⊢
      obtain ⟨g, cap, u0, u1, y5, y0, y6, z0, z1, f0, f1, FN, FV⟩ := tail_facts I2.out (hn) T2.out L2.out j (by first | exact hj | exact HJ.out)
      have n3 : w2.cell? ⟨gn, 3, none⟩ = some (.string nx.attr) := (blk_cell N2.out 3).trans rfl
      have FN := Aside0.mk FN
      have FV := Aside0.mk FV
      have HLa := Aside0.mk (last_calls w2.drew b g cap _ y5 (hn) (by first | omega | (simp only [anR, bgR, List.length_append, List.length_singleton]; omega)))
      rw [show ((bgR r i1)).ats.length - 1 = j from by first | exact hj | exact HJ.out] at HLa
      clear hw2
      refine start_ (n := 16) (S := fun w' => w'.cell? ⟨b, 0, none⟩ = some (.string p) ∧ w'.cell? ⟨b, 6, none⟩ = some (.int .i64 (i1 : Nat))) (ds := [15]) #[false, false, false, false, false, false, false, false, false, false, false, false, false, false, false, false] (by kernel_rfl) rfl rfl ⟨y0, y6⟩ (fun hHeld => ?_)
      refine pS 0 79 #[true, false, false, false, false, false, false, false, false, false, false, false, false, false, false, false] ?_
      refine pS 2 81 #[true, false, true, false, false, false, false, false, false, false, false, false, false, false, false, false] ?_
      refine pS 3 82 #[true, false, true, true, false, false, false, false, false, false, false, false, false, false, false, false] ?_
      refine pS 4 83 #[true, false, true, true, true, false, false, false, false, false, false, false, false, false, false, false] ?_
      refine pS 6 85 #[true, false, true, true, true, false, true, false, false, false, false, false, false, false, false, false] ?_
      refine pS 7 86 #[true, false, true, true, true, false, true, true, false, false, false, false, false, false, false, false] ?_
      refine pS 8 87 #[true, false, true, true, true, false, true, true, true, false, false, false, false, false, false, false] ?_
      refine pS 10 89 #[true, false, true, true, true, false, true, true, true, false, true, false, false, false, false, false] ?_
      refine pS 11 90 #[true, false, true, true, true, false, true, true, true, false, true, true, false, false, false, false] ?_
      refine take_ (i := 5) (N := some 84) (v := ?_) (a' := ?_) #[true, false, true, true, true, true, true, true, true, false, true, true, false, false, false, false] rfl rfl (by kernel_rfl) (fun _ _ _ h => h) (Or.inl ⟨by rfl, ?_⟩) hHeld ?_ ?_
      rotate_left
      · rintro w' ⟨s0, s1⟩
        go_simp
        with_reducible rfl
      rotate_left
      · simp only [Act.put, zA, zZ, zS, i64_w, i32_w]
        rfl
      refine take_ (i := 9) (N := some 88) (v := ?_) (a' := ?_) #[true, false, true, true, true, true, true, true, true, true, true, true, false, false, false, false] rfl rfl (by kernel_rfl) (fun _ _ _ h => h) (Or.inl ⟨by rfl, ?_⟩) hHeld ?_ ?_
      rotate_left
      · rintro w' ⟨s0, s1⟩
        go_simp
        with_reducible rfl
      rotate_left
      · simp only [Act.put, zA, zZ, zS, i64_w, i32_w]
        rfl
      refine pS 12 91 #[true, false, true, true, true, true, true, true, true, true, true, true, true, false, false, false] ?_
      refine one_ (i := 1) (N := some 80) #[true, true, true, true, true, true, true, true, true, true, true, true, true, false, false, false] rfl rfl (by kernel_rfl) (by decide) (fun K hK => ?_)
      refine goes_ Tryz.func166 (by kernel_rfl) rfl #[.pointer (some ⟨b, 0, none⟩)] (by rfl) rfl rfl (by simp only [List.map_toArray, List.map_cons, List.map_nil]; rfl) ?_
      with_reducible refine (HLa.out).mono ?_
      rintro e w3 ⟨rfl, ⟨m3, rfl⟩⟩
      refine ⟨_, rfl, ?_⟩
      refine hK.out _ _ ⟨y0, y6⟩ (fun hHeld => ?_)
      clear hK K
      refine norm_ (a' := ?_) ?_ ?_
      rotate_left
      · show Act.put _ (some 80) _ = _
        simp only [Act.put, zA, zZ, zS, i64_w, i32_w]
        rfl
      refine pS 13 92 #[true, true, true, true, true, true, true, true, true, true, true, true, true, true, false, false] ?_
      refine pS 14 93 #[true, true, true, true, true, true, true, true, true, true, true, true, true, true, true, false] ?_
      refine last_ (i := 15) (N := none) #[true, true, true, true, true, true, true, true, true, true, true, true, true, true, true, true] rfl rfl (by kernel_rfl) (by decide) (fun K hK => ?_)
      refine skip_ (w1 := ?_) (by rfl) rfl ?_ ?_
      rotate_left
      · go_simp
        rfl
      refine hK.out _ _ ?_
      clear hK K
      refine done_ (by kernel_rfl) ?_
      go_end0
      exact FV.out _ _ ⟨⟨1 + m3, rfl⟩⟩
  have n8b : (nx.pos == 8) = false := by simpa using k8
  by_cases k9 : nx.pos = 9
  · rw [k9] at n0
    by_cases s1 : s.pos = 9
    · rw [show readsR p r s nx i = vlR r (p.extract r.bg i1) by unfold readsR vlR; rw [if_neg k3, if_neg k5, if_neg k10, if_pos (Or.inr k9), if_pos (by rw [s1, k9])]; subst hi1; rfl]
      have hn : 0 < r.ats.length := by rcases ha with h | h | h; exact h; exact absurd h.1 k5; exact absurd k9 (by first | exact h.2.1 | exact h.2.2.1 | exact h.2.2.2)
      obtain ⟨j, hj⟩ : ∃ j, r.ats.length - 1 = j := ⟨_, rfl⟩
      have HJ : Aside0 (r.ats.length - 1 = j) := Aside0.mk hj
      have hb := hbg (by rw [s1, k9]) (by omega)
      have hrun := fun W => slice_run (P := Tryz.prog) 9 p r.bg i1 (by omega) (by omega) W Tryz.underlying9
      obtain ⟨q, hq⟩ : ∃ q, p.extract r.bg i1 = q := ⟨_, rfl⟩
      rw [hq] at hrun ⊢
      rw [s1] at s0
      clear k3 k5 s1 n3b n5b ha hbg hq hi1 k10 n10b k9
      go_enter Tryz.func110, Tryz.ntmps110
      go_wp2
      go_quiet (fail)
      go_wp2
      have I2 := Aside0.mk (show RdAt (w.drewN nq) w0.heap.size b (fun _ => True) p r from HI.out.drewN nq)
      have T2 := Aside0.mk (show StKeep w (w.drewN nq) from StKeep.below (pw_below_drewN (Below.refl w.heap.size w) nq))
      have L2 := Aside0.mk (show Below w0.heap.size w0 (w.drewN nq) from pw_below_drewN HB.out nq)
      have N2 := Aside0.mk (StKeep.st T2.out HN.out)
      obtain ⟨w2, hw2⟩ : ∃ w2, w.drewN nq = w2 := ⟨_, rfl⟩
      rw [hw2] at I2 T2 L2 N2 ⊢
      obtain ⟨g, cap, u0, u1, y5, y0, y6, z0, z1, f0, f1, FN, FV⟩ := tail_facts I2.out (hn) T2.out L2.out j (by first | exact hj | exact HJ.out)
      have n3 : w2.cell? ⟨gn, 3, none⟩ = some (.string nx.attr) := (blk_cell N2.out 3).trans rfl
      have FN := Aside0.mk FN
      have FV := Aside0.mk FV
      have HLa := Aside0.mk (last_calls w2.drew b g cap _ y5 (hn) (by first | omega | (simp only [anR, bgR, List.length_append, List.length_singleton]; omega)))
      rw [show (r).ats.length - 1 = j from by first | exact hj | exact HJ.out] at HLa
      clear hw2
      refine start_ (n := 16) (S := fun w' => w'.cell? ⟨b, 0, none⟩ = some (.string p) ∧ w'.cell? ⟨b, 6, none⟩ = some (.int .i64 (r.bg : Nat))) (ds := [15]) #[false, false, false, false, false, false, false, false, false, false, false, false, false, false, false, false] (by kernel_rfl) rfl rfl ⟨y0, y6⟩ (fun hHeld => ?_)
      refine pS 0 79 #[true, false, false, false, false, false, false, false, false, false, false, false, false, false, false, false] ?_
      refine pS 2 81 #[true, false, true, false, false, false, false, false, false, false, false, false, false, false, false, false] ?_
      refine pS 3 82 #[true, false, true, true, false, false, false, false, false, false, false, false, false, false, false, false] ?_
      refine pS 4 83 #[true, false, true, true, true, false, false, false, false, false, false, false, false, false, false, false] ?_
      refine pS 6 85 #[true, false, true, true, true, false, true, false, false, false, false, false, false, false, false, false] ?_
      refine pS 7 86 #[true, false, true, true, true, false, true, true, false, false, false, false, false, false, false, false] ?_
      refine pS 8 87 #[true, false, true, true, true, false, true, true, true, false, false, false, false, false, false, false] ?_
      refine pS 10 89 #[true, false, true, true, true, false, true, true, true, false, true, false, false, false, false, false] ?_
      refine pS 11 90 #[true, false, true, true, true, false, true, true, true, false, true, true, false, false, false, false] ?_
      refine take_ (i := 5) (N := some 84) (v := ?_) (a' := ?_) #[true, false, true, true, true, true, true, true, true, false, true, true, false, false, false, false] rfl rfl (by kernel_rfl) (fun _ _ _ h => h) (Or.inl ⟨by rfl, ?_⟩) hHeld ?_ ?_
      rotate_left
      · rintro w' ⟨s0, s1⟩
        go_simp
        with_reducible rfl
      rotate_left
      · simp only [Act.put, zA, zZ, zS, i64_w, i32_w]
        rfl
      refine take_ (i := 9) (N := some 88) (v := ?_) (a' := ?_) #[true, false, true, true, true, true, true, true, true, true, true, true, false, false, false, false] rfl rfl (by kernel_rfl) (fun _ _ _ h => h) (Or.inl ⟨by rfl, ?_⟩) hHeld ?_ ?_
      rotate_left
      · rintro w' ⟨s0, s1⟩
        go_simp
        with_reducible rfl
      rotate_left
      · simp only [Act.put, zA, zZ, zS, i64_w, i32_w]
        rfl
      refine pS 12 91 #[true, false, true, true, true, true, true, true, true, true, true, true, true, false, false, false] ?_
      refine one_ (i := 1) (N := some 80) #[true, true, true, true, true, true, true, true, true, true, true, true, true, false, false, false] rfl rfl (by kernel_rfl) (by decide) (fun K hK => ?_)
      refine goes_ Tryz.func166 (by kernel_rfl) rfl #[.pointer (some ⟨b, 0, none⟩)] (by rfl) rfl rfl (by simp only [List.map_toArray, List.map_cons, List.map_nil]; rfl) ?_
      with_reducible refine (HLa.out).mono ?_
      rintro e w3 ⟨rfl, ⟨m3, rfl⟩⟩
      refine ⟨_, rfl, ?_⟩
      refine hK.out _ _ ⟨y0, y6⟩ (fun hHeld => ?_)
      clear hK K
      refine norm_ (a' := ?_) ?_ ?_
      rotate_left
      · show Act.put _ (some 80) _ = _
        simp only [Act.put, zA, zZ, zS, i64_w, i32_w]
        rfl
      refine pS 13 92 #[true, true, true, true, true, true, true, true, true, true, true, true, true, true, false, false] ?_
      refine pS 14 93 #[true, true, true, true, true, true, true, true, true, true, true, true, true, true, true, false] ?_
      refine last_ (i := 15) (N := none) #[true, true, true, true, true, true, true, true, true, true, true, true, true, true, true, true] rfl rfl (by kernel_rfl) (by decide) (fun K hK => ?_)
      refine skip_ (w1 := ?_) (by rfl) rfl ?_ ?_
      rotate_left
      · go_simp
        rfl
      refine hK.out _ _ ?_
      clear hK K
      refine done_ (by kernel_rfl) ?_
      go_end0
      exact FV.out _ _ ⟨⟨1 + m3, rfl⟩⟩
    · rw [show readsR p r s nx i = vlR (bgR r i1) (p.extract i1 i1) by unfold readsR vlR bgR; rw [if_neg k3, if_neg k5, if_neg k10, if_pos (Or.inr k9), if_neg (by rw [k9]; exact s1)]; subst hi1; rfl]
      have hn : 0 < r.ats.length := by rcases ha with h | h | h; exact h; exact absurd h.1 k5; exact absurd k9 (by first | exact h.2.1 | exact h.2.2.1 | exact h.2.2.2)
      obtain ⟨j, hj⟩ : ∃ j, r.ats.length - 1 = j := ⟨_, rfl⟩
      have HJ : Aside0 ((bgR r i1).ats.length - 1 = j) := Aside0.mk hj
      have hrun := fun W => slice_run (P := Tryz.prog) 9 p i1 i1 (by omega) (by omega) W Tryz.underlying9
      obtain ⟨q, hq⟩ : ∃ q, p.extract i1 i1 = q := ⟨_, rfl⟩
      rw [hq] at hrun ⊢
      have sb : (s.pos != 9) = true := by simpa using s1
      clear k3 k5 s1 n3b n5b ha hbg hq hi1 k10 n10b k9
      go_enter Tryz.func110, Tryz.ntmps110
      go_wp2
      go_quiet (fail)
      go_wp2
      have I2 := Aside0.mk (show RdAt ((w.drewN nq).setCell ⟨b, 6, none⟩ (.int .i64 (i1 : Int))) w0.heap.size b (fun _ => True) p (bgR r i1) from (HI.out.drewN nq).bg i1)
      have T2 := Aside0.mk (show StKeep w ((w.drewN nq).setCell ⟨b, 6, none⟩ (.int .i64 (i1 : Int))) from (StKeep.below (pw_below_drewN (Below.refl w.heap.size w) nq)).trans (StKeep.set (w := w.drewN nq) HCS.out (by decide)))
      have L2 := Aside0.mk (show Below w0.heap.size w0 ((w.drewN nq).setCell ⟨b, 6, none⟩ (.int .i64 (i1 : Int))) from (pw_below_drewN HB.out nq).setCell HBW.out _)
      have N2 := Aside0.mk (StKeep.st T2.out HN.out)
      obtain ⟨w2, hw2⟩ : ∃ w2, (w.drewN nq).setCell ⟨b, 6, none⟩ (.int .i64 (i1 : Int)) = w2 := ⟨_, rfl⟩
      rw [hw2] at I2 T2 L2 N2 ⊢
      obtain ⟨g, cap, u0, u1, y5, y0, y6, z0, z1, f0, f1, FN, FV⟩ := tail_facts I2.out (hn) T2.out L2.out j (by first | exact hj | exact HJ.out)
      have n3 : w2.cell? ⟨gn, 3, none⟩ = some (.string nx.attr) := (blk_cell N2.out 3).trans rfl
      have FN := Aside0.mk FN
      have FV := Aside0.mk FV
      have HLa := Aside0.mk (last_calls w2.drew b g cap _ y5 (hn) (by first | omega | (simp only [anR, bgR, List.length_append, List.length_singleton]; omega)))
      rw [show ((bgR r i1)).ats.length - 1 = j from by first | exact hj | exact HJ.out] at HLa
      clear hw2
      refine start_ (n := 16) (S := fun w' => w'.cell? ⟨b, 0, none⟩ = some (.string p) ∧ w'.cell? ⟨b, 6, none⟩ = some (.int .i64 (i1 : Nat))) (ds := [15]) #[false, false, false, false, false, false, false, false, false, false, false, false, false, false, false, false] (by kernel_rfl) rfl rfl ⟨y0, y6⟩ (fun hHeld => ?_)
      refine pS 0 79 #[true, false, false, false, false, false, false, false, false, false, false, false, false, false, false, false] ?_
      refine pS 2 81 #[true, false, true, false, false, false, false, false, false, false, false, false, false, false, false, false] ?_
      refine pS 3 82 #[true, false, true, true, false, false, false, false, false, false, false, false, false, false, false, false] ?_
      refine pS 4 83 #[true, false, true, true, true, false, false, false, false, false, false, false, false, false, false, false] ?_
      refine pS 6 85 #[true, false, true, true, true, false, true, false, false, false, false, false, false, false, false, false] ?_
      refine pS 7 86 #[true, false, true, true, true, false, true, true, false, false, false, false, false, false, false, false] ?_
      refine pS 8 87 #[true, false, true, true, true, false, true, true, true, false, false, false, false, false, false, false] ?_
      refine pS 10 89 #[true, false, true, true, true, false, true, true, true, false, true, false, false, false, false, false] ?_
      refine pS 11 90 #[true, false, true, true, true, false, true, true, true, false, true, true, false, false, false, false] ?_
      refine take_ (i := 5) (N := some 84) (v := ?_) (a' := ?_) #[true, false, true, true, true, true, true, true, true, false, true, true, false, false, false, false] rfl rfl (by kernel_rfl) (fun _ _ _ h => h) (Or.inl ⟨by rfl, ?_⟩) hHeld ?_ ?_
      rotate_left
      · rintro w' ⟨s0, s1⟩
        go_simp
        with_reducible rfl
      rotate_left
      · simp only [Act.put, zA, zZ, zS, i64_w, i32_w]
        rfl
      refine take_ (i := 9) (N := some 88) (v := ?_) (a' := ?_) #[true, false, true, true, true, true, true, true, true, true, true, true, false, false, false, false] rfl rfl (by kernel_rfl) (fun _ _ _ h => h) (Or.inl ⟨by rfl, ?_⟩) hHeld ?_ ?_
      rotate_left
      · rintro w' ⟨s0, s1⟩
        go_simp
        with_reducible rfl
      rotate_left
      · simp only [Act.put, zA, zZ, zS, i64_w, i32_w]
        rfl
      refine pS 12 91 #[true, false, true, true, true, true, true, true, true, true, true, true, true, false, false, false] ?_
      refine one_ (i := 1) (N := some 80) #[true, true, true, true, true, true, true, true, true, true, true, true, true, false, false, false] rfl rfl (by kernel_rfl) (by decide) (fun K hK => ?_)
      refine goes_ Tryz.func166 (by kernel_rfl) rfl #[.pointer (some ⟨b, 0, none⟩)] (by rfl) rfl rfl (by simp only [List.map_toArray, List.map_cons, List.map_nil]; rfl) ?_
      with_reducible refine (HLa.out).mono ?_
      rintro e w3 ⟨rfl, ⟨m3, rfl⟩⟩
      refine ⟨_, rfl, ?_⟩
      refine hK.out _ _ ⟨y0, y6⟩ (fun hHeld => ?_)
      clear hK K
      refine norm_ (a' := ?_) ?_ ?_
      rotate_left
      · show Act.put _ (some 80) _ = _
        simp only [Act.put, zA, zZ, zS, i64_w, i32_w]
        rfl
      refine pS 13 92 #[true, true, true, true, true, true, true, true, true, true, true, true, true, true, false, false] ?_
      refine pS 14 93 #[true, true, true, true, true, true, true, true, true, true, true, true, true, true, true, false] ?_
      refine last_ (i := 15) (N := none) #[true, true, true, true, true, true, true, true, true, true, true, true, true, true, true, true] rfl rfl (by kernel_rfl) (by decide) (fun K hK => ?_)
      refine skip_ (w1 := ?_) (by rfl) rfl ?_ ?_
      rotate_left
      · go_simp
        rfl
      refine hK.out _ _ ?_
      clear hK K
      refine done_ (by kernel_rfl) ?_
      go_end0
      exact FV.out _ _ ⟨⟨1 + m3, rfl⟩⟩
  have n9b : (nx.pos == 9) = false := by simpa using k9
  rw [show readsR p r s nx i = r by unfold readsR; rw [if_neg k3, if_neg k5, if_neg k10, if_neg (by omega)]]
  clear k3 k5 k10 k8 k9 ha hbg hwi hi1
  go_enter Tryz.func110, Tryz.ntmps110
  go_wp2
  go_quiet (fail)
  go_wp2
  go_end0
  exact ⟨rfl, HI.out.drewN _, pw_below_drewN HB.out _, StKeep.below (pw_below_drewN (Below.refl _ _) nq), fun _ _ _ h => absurd trivial h⟩
set_option maxHeartbeats 3200000 in
theorem ends_calls (w : World) (gs : Nat) (s : St) (hs : StAt w gs s) : Calls Tryz.prog 106 #[.pointer (some ⟨gs, 0, none⟩)] w fun e w' => e = .returned (.bool (endsB s)) ∧ Drawn0 w w' := by
  have s0 : w.cell? ⟨gs, 0, none⟩ = some (.int .i64 s.pos) := (blk_cell hs 0).trans rfl
  have s4 : w.cell? ⟨gs, 4, none⟩ = some (.string s.held) := (blk_cell hs 4).trans rfl
  have s5 : w.cell? ⟨gs, 5, none⟩ = some (.int .i64 s.read) := (blk_cell hs 5).trans rfl
  by_cases k3 : s.pos = 3
  · rw [show endsB s = true by unfold endsB; simp [k3]]
    rw [k3] at s0
    clear k3 hs
    go_enter Tryz.func106, Tryz.ntmps106
    go_wp2
    go_ret
    exact ⟨rfl, by repeat (first | exact Drawn0.refl _ | apply Drawn0.step)⟩
  have n3 : (s.pos == 3) = false := by simpa using k3
  by_cases k4 : s.pos = 4
  · rw [show endsB s = true by unfold endsB; simp [k4]]
    rw [k4] at s0
    clear k4 hs
    go_enter Tryz.func106, Tryz.ntmps106
    go_wp2
    go_ret
    exact ⟨rfl, by repeat (first | exact Drawn0.refl _ | apply Drawn0.step)⟩
  have n4 : (s.pos == 4) = false := by simpa using k4
  by_cases k5 : s.pos = 5
  · rw [show endsB s = true by unfold endsB; simp [k5]]
    rw [k5] at s0
    clear k5 hs
    go_enter Tryz.func106, Tryz.ntmps106
    go_wp2
    go_ret
    exact ⟨rfl, by repeat (first | exact Drawn0.refl _ | apply Drawn0.step)⟩
  have n5 : (s.pos == 5) = false := by simpa using k5
  by_cases k6 : s.pos = 6
  · rw [show endsB s = true by unfold endsB; simp [k6]]
    rw [k6] at s0
    clear k6 hs
    go_enter Tryz.func106, Tryz.ntmps106
    go_wp2
    go_ret
    exact ⟨rfl, by repeat (first | exact Drawn0.refl _ | apply Drawn0.step)⟩
  have n6 : (s.pos == 6) = false := by simpa using k6
  by_cases k7 : s.pos = 7
  · rw [show endsB s = true by unfold endsB; simp [k7]]
    rw [k7] at s0
    clear k7 hs
    go_enter Tryz.func106, Tryz.ntmps106
    go_wp2
    go_ret
    exact ⟨rfl, by repeat (first | exact Drawn0.refl _ | apply Drawn0.step)⟩
  have n7 : (s.pos == 7) = false := by simpa using k7
  by_cases k10 : s.pos = 10
  · rw [show endsB s = true by unfold endsB; simp [k10]]
    rw [k10] at s0
    clear k10 hs
    go_enter Tryz.func106, Tryz.ntmps106
    go_wp2
    go_ret
    exact ⟨rfl, by repeat (first | exact Drawn0.refl _ | apply Drawn0.step)⟩
  have n10 : (s.pos == 10) = false := by simpa using k10
  by_cases k11 : s.pos = 11
  · rw [show endsB s = true by unfold endsB; simp [k11]]
    rw [k11] at s0
    clear k11 hs
    go_enter Tryz.func106, Tryz.ntmps106
    go_wp2
    go_ret
    exact ⟨rfl, by repeat (first | exact Drawn0.refl _ | apply Drawn0.step)⟩
  have n11 : (s.pos == 11) = false := by simpa using k11
  by_cases k12 : s.pos = 12
  · rw [show endsB s = true by unfold endsB; simp [k12]]
    rw [k12] at s0
    clear k12 hs
    go_enter Tryz.func106, Tryz.ntmps106
    go_wp2
    go_ret
    exact ⟨rfl, by repeat (first | exact Drawn0.refl _ | apply Drawn0.step)⟩
  have n12 : (s.pos == 12) = false := by simpa using k12
  by_cases k22 : s.pos = 22
  · rw [show endsB s = (s.read == (s.held.size : Int)) by unfold endsB; rw [if_neg (by omega), if_pos k22, Bool.eq_iff_iff]; simp]
    rw [k22] at s0
    clear k22 hs
    go_enter Tryz.func106, Tryz.ntmps106
    go_wp2
    go_quiet (fail)
    go_wp2
    go_ret
    exact ⟨rfl, by repeat (first | exact Drawn0.refl _ | apply Drawn0.step)⟩
  have n22 : (s.pos == 22) = false := by simpa using k22
  rw [show endsB s = false by unfold endsB; rw [if_neg (by omega), if_neg k22]]
  go_enter Tryz.func106, Tryz.ntmps106
  go_wp2
  go_ret
  exact ⟨rfl, by repeat (first | exact Drawn0.refl _ | apply Drawn0.step)⟩
set_option maxHeartbeats 3200000 in
theorem remarks_calls (w : World) (gs : Nat) (s : St) (hs : StAt w gs s) : Calls Tryz.prog 108 #[.pointer (some ⟨gs, 0, none⟩)] w fun e w' => e = .returned (.bool (remarksB s)) ∧ Drawn0 w w' := by
  have s0 : w.cell? ⟨gs, 0, none⟩ = some (.int .i64 s.pos) := (blk_cell hs 0).trans rfl
  have s4 : w.cell? ⟨gs, 4, none⟩ = some (.string s.held) := (blk_cell hs 4).trans rfl
  have s5 : w.cell? ⟨gs, 5, none⟩ = some (.int .i64 s.read) := (blk_cell hs 5).trans rfl
  by_cases k13 : s.pos = 13
  · rw [show remarksB s = true by unfold remarksB; simp [k13]]
    rw [k13] at s0
    clear k13 hs
    go_enter Tryz.func108, Tryz.ntmps108
    go_wp2
    go_ret
    exact ⟨rfl, by repeat (first | exact Drawn0.refl _ | apply Drawn0.step)⟩
  have n13 : (s.pos == 13) = false := by simpa using k13
  by_cases k14 : s.pos = 14
  · rw [show remarksB s = true by unfold remarksB; simp [k14]]
    rw [k14] at s0
    clear k14 hs
    go_enter Tryz.func108, Tryz.ntmps108
    go_wp2
    go_ret
    exact ⟨rfl, by repeat (first | exact Drawn0.refl _ | apply Drawn0.step)⟩
  have n14 : (s.pos == 14) = false := by simpa using k14
  by_cases k18 : s.pos = 18
  · rw [show remarksB s = true by unfold remarksB; simp [k18]]
    rw [k18] at s0
    clear k18 hs
    go_enter Tryz.func108, Tryz.ntmps108
    go_wp2
    go_ret
    exact ⟨rfl, by repeat (first | exact Drawn0.refl _ | apply Drawn0.step)⟩
  have n18 : (s.pos == 18) = false := by simpa using k18
  by_cases k17 : s.pos = 17
  · rw [show remarksB s = true by unfold remarksB; simp [k17]]
    rw [k17] at s0
    clear k17 hs
    go_enter Tryz.func108, Tryz.ntmps108
    go_wp2
    go_ret
    exact ⟨rfl, by repeat (first | exact Drawn0.refl _ | apply Drawn0.step)⟩
  have n17 : (s.pos == 17) = false := by simpa using k17
  rw [show remarksB s = false by unfold remarksB; rw [if_neg (by omega)]]
  go_enter Tryz.func108, Tryz.ntmps108
  go_wp2
  go_ret
  exact ⟨rfl, by repeat (first | exact Drawn0.refl _ | apply Drawn0.step)⟩
end Go.Proofs.YtfmcdlbbbmeolaaGreatDoor.Tk
end
