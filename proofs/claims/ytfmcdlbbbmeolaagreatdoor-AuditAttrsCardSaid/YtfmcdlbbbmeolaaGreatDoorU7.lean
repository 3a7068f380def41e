/- tok's reader's takes, rest: walked. tok.heldSlash, heldName, Start: walked. -/
import Derived.Test.YtfmcdlbbbmeolaaGreatDoorU0
import Derived.Test.YtfmcdlbbbmeolaaGreatDoorU4
import Derived.Test.YtfmcdlbbbmeolaaGreatDoorU6
section
namespace Go.Proofs.YtfmcdlbbbmeolaaGreatDoor.Tk
open Go.RowKit Go.Proofs.YtfmcdlbbbmeolaaGreatDoor.XK Go.Proofs.YtfmcdlbbbmeolaaGreatDoorW.PrintWords Go.Proofs.YtfmcdlbbbmeolaaGreatDoorW.PrintLast Go.Proofs.YtfmcdlbbbmeolaaGreatDoorW.PrintMore
open Go.Proofs.YtfmcdlbbbmeolaaGreatDoor.Refs (lowN lowByte_calls decL decode_calls)
attribute [local go_sem ↓] Go.wp_at_zero Go.wp_at_succ
set_option linter.unusedVariables false
set_option linter.unusedSimpArgs false
set_option maxRecDepth 100000
theorem TextP.more {w0 w w1 : World} {b : Nat} {p : ByteArray} {r : Rd} {e : Ending} {w' : World} (h : TextP w0 w1 b (fun _ => True) p r e w') (hk : StKeep w w1) : TextP w0 w b (fun _ => True) p r e w' := ⟨h.ends, h.at_, h.low, hk.trans h.st, fun _ _ _ h => absurd trivial h⟩
set_option maxHeartbeats 3200000 in
theorem takes_calls (w0 w : World) (b gs gn : Nat) (p : ByteArray) (r : Rd) (s nx : St) (i : Nat) (hB : Below w0.heap.size w0 w) (hI : RdAt w w0.heap.size b (fun _ => True) p r) (hs : StAt w gs s) (hn : StAt w gn nx)
    (h1 : i < p.size) (hp : p.size ≤ 65536) (hm : r.ats.length ≤ 900000) (hout : r.out.length ≤ 999990) (hsz : ∀ x ∈ r.ats, x.f1.size ≤ 140737488355328)
    (ht : endsB s = true → r.fr ≤ r.op ∧ r.op ≤ p.size) (hc : remarksB s = true → r.fr ≤ r.op ∧ r.op + 2 ≤ i ∧ (s.pos = 17 → r.op + 6 ≤ i))
    (ha : 0 < r.ats.length ∨ (nx.pos = 5 ∧ s.pos ≠ 5) ∨ (nx.pos ≠ 5 ∧ nx.pos ≠ 8 ∧ nx.pos ≠ 9 ∧ nx.pos ≠ 10)) (hbg : s.pos = nx.pos → (nx.pos = 8 ∨ nx.pos = 9 ∨ nx.pos = 10) → r.bg ≤ i) :
    Calls Tryz.prog 48 #[.pointer (some ⟨b, 0, none⟩), .pointer (some ⟨gs, 0, none⟩), .pointer (some ⟨gn, 0, none⟩), .int .i64 (i : Int)] w (TextP w0 w b (fun _ => True) p (takesR p r s nx i)) := by
  have n0 : w.cell? ⟨gn, 0, none⟩ = some (.int .i64 nx.pos) := (blk_cell hn 0).trans rfl
  obtain ⟨x0, _, x3, _, _, _, _, hf, cs, hcs⟩ := hI.cells
  have f3 := hf 3
  have HI := Aside0.mk hI
  have HB := Aside0.mk hB
  have HN := Aside0.mk hn
  have HCS := Aside0.mk hcs
  have HBW := Aside0.mk (show w0.heap.size ≤ b from hI.1)
  have HEn := Aside0.mk (ends_calls w gs s hs)
  have HRe := Aside0.mk (fun m => remarks_calls (w.drewN m) gs s hs)
  have HRd := Aside0.mk (fun m => rreads_calls w0 (w.drewN m) b gs gn p r s nx i (pw_below_drewN hB m) (hI.drewN m) hs hn h1 hp hm ha hbg)
  have HTa := Aside0.mk (fun m h => tag_calls w0 (w.drewN m) b gs p r s i (pw_below_drewN hB m) (hI.drewN m) hs (ht h).1 (ht h).2 (by omega) hp hout hsz)
  have HCm := Aside0.mk (fun m h => rcomment_calls w0 (w.drewN m) b gs p r s i (pw_below_drewN hB m) (hI.drewN m) hs (hc h).1 (hc h).2.1 (hc h).2.2 h1 hp hout)
  have hrun := fun W => byte_run (P := Tryz.prog) 9 p i h1 W Tryz.underlying9
  obtain ⟨c, hcc⟩ : ∃ c, byteAt p (i : Int) = c := ⟨_, rfl⟩
  unfold takesR
  rw [hcc] at hrun ⊢
  clear hI hB hs hn hf hcs hcc ht hc ha hbg hsz hout hm hp h1
  have DK : ∀ m, StKeep w (w.drewN m) := fun m => StKeep.below (pw_below_drewN (Below.refl _ _) m)
  have DK := Aside0.mk DK
  by_cases c60 : c = 60
  · have d60 : ((c : Int) == 60) = true := by rw [beq_iff_eq]; omega
    by_cases k1 : nx.pos = 1
    · rw [if_pos ⟨c60, Or.inl k1⟩]
      rw [k1] at n0
      clear c60 k1
      go_enter Tryz.func48, Tryz.ntmps48
      go_wp2
      go_end0
      exact ⟨rfl, HI.out.op i, HB.out.setCell HBW.out _, StKeep.set HCS.out (by decide), fun _ _ _ h => absurd trivial h⟩
    have k1b : (nx.pos == 1) = false := by simpa using k1
    by_cases k20 : nx.pos = 20
    · rw [if_pos ⟨c60, Or.inr k20⟩]
      rw [k20] at n0
      clear c60 k1 k20 k1b
      go_enter Tryz.func48, Tryz.ntmps48
      go_wp2
      go_end0
      exact ⟨rfl, HI.out.op i, HB.out.setCell HBW.out _, StKeep.set HCS.out (by decide), fun _ _ _ h => absurd trivial h⟩
    · have k20b : (nx.pos == 20) = false := by simpa using k20
      have d62 : ((c : Int) == 62) = false := by rw [beq_eq_false_iff_ne]; omega
      rw [if_neg (fun h => by rcases h.2 with h | h; exact k1 h; exact k20 h), if_neg (fun h => by omega), if_neg (fun h => by omega)]
      clear c60 k1 k20
      go_enter Tryz.func48, Tryz.ntmps48
      go_wp2_with (go_at_call 110; refine (HRd.out 0).mono ?_; rintro e w2 hT; obtain rfl := hT.ends)
      go_end0
      exact hT
  · have d60 : ((c : Int) == 60) = false := by rw [beq_eq_false_iff_ne]; omega
    rw [if_neg (fun h => c60 h.1)]
    by_cases c62 : c = 62
    · have d62 : ((c : Int) == 62) = true := by rw [beq_iff_eq]; omega
      by_cases he : endsB s = true
      · rw [if_pos ⟨c62, he⟩]
        have HT2 := Aside0.mk (fun m => HTa.out m he)
        rw [he] at HEn
        clear c60 c62 he HTa HCm
        go_enter Tryz.func48, Tryz.ntmps48
        go_wp2_with (first | (go_at_call 106; refine HEn.out.mono ?_; rintro e w1 ⟨rfl, ⟨m, rfl⟩⟩) | (go_at_call 107; refine (HT2.out _).mono ?_; rintro e w2 hT; obtain rfl := hT.ends; have n4 : w2.cell? ⟨gn, 4, none⟩ = some (.string nx.held) := (blk_cell (hT.st.st (show StAt (w.drewN m) gn nx from HN.out)) 4).trans rfl; have y4 := hT.at_.cells.2.2.2.1; have g4 := hT.at_.cells.2.2.2.2.2.2.2.1 4; have HTT := Aside0.mk hT; clear hT))
        go_end0
        obtain ⟨cs2, hcs2⟩ := HTT.out.at_.cells.2.2.2.2.2.2.2.2
        exact ⟨rfl, HTT.out.at_.held nx.held, HTT.out.low.setCell HBW.out _, ((DK.out _).trans HTT.out.st).trans (StKeep.set hcs2 (by decide)), fun _ _ _ h => absurd trivial h⟩
      · have he : endsB s = false := by simpa using he
        rw [if_neg (fun h => by rw [he] at h; exact absurd h.2 (by simp))]
        rw [he] at HEn
        by_cases hr : remarksB s = true
        · rw [if_pos ⟨c62, hr⟩]
          have HCo := Aside0.mk (fun m => HCm.out m hr)
          rw [hr] at HRe
          clear c60 c62 he hr HTa HCm
          go_enter Tryz.func48, Tryz.ntmps48
          go_wp2_with (first | (go_at_call 106; refine HEn.out.mono ?_; rintro e w1 ⟨rfl, ⟨m, rfl⟩⟩) | (go_at_call 108; refine (HRe.out _).mono ?_; rintro e w1 ⟨rfl, ⟨m, rfl⟩⟩) | (go_at_call 109; refine (HCo.out _).mono ?_; rintro e w2 hT; obtain rfl := hT.ends))
          go_end0
          exact hT.more (DK.out _)
        · have hr : remarksB s = false := by simpa using hr
          rw [if_neg (fun h => by rw [hr] at h; exact absurd h.2 (by simp))]
          rw [hr] at HRe
          clear c60 c62 he hr HTa HCm
          go_enter Tryz.func48, Tryz.ntmps48
          go_wp2_with (first | (go_at_call 106; refine HEn.out.mono ?_; rintro e w1 ⟨rfl, ⟨m, rfl⟩⟩) | (go_at_call 108; refine (HRe.out _).mono ?_; rintro e w1 ⟨rfl, ⟨m, rfl⟩⟩) | (go_at_call 110; refine (HRd.out _).mono ?_; rintro e w2 hT; obtain rfl := hT.ends))
          go_end0
          exact hT.more (DK.out _)
    · have d62 : ((c : Int) == 62) = false := by rw [beq_eq_false_iff_ne]; omega
      rw [if_neg (fun h => c62 h.1), if_neg (fun h => c62 h.1)]
      clear c60 c62 HTa HCm
      go_enter Tryz.func48, Tryz.ntmps48
      go_wp2_with (go_at_call 110; refine (HRd.out 0).mono ?_; rintro e w2 hT; obtain rfl := hT.ends)
      go_end0
      exact hT
set_option maxHeartbeats 3200000 in
theorem rest_calls (w0 w : World) (b gs : Nat) (p : ByteArray) (r : Rd) (s : St) (hB : Below w0.heap.size w0 w) (hI : RdAt w w0.heap.size b (fun _ => True) p r) (hs : StAt w gs s)
    (hp : p.size ≤ 65536) (hout : r.out.length ≤ 999990) (h1 : r.fr ≤ p.size) (h2 : restB s = false → r.fr ≤ r.op ∧ r.op ≤ p.size) :
    Calls Tryz.prog 49 #[.pointer (some ⟨b, 0, none⟩), .pointer (some ⟨gs, 0, none⟩)] w (TextP w0 w b (fun _ => True) p (restR p r s)) := by
  have s0 : w.cell? ⟨gs, 0, none⟩ = some (.int .i64 s.pos) := (blk_cell hs 0).trans rfl
  obtain ⟨x0, _, x3, _⟩ := hI.cells
  have HTx := Aside0.mk (fun t h1 h2 => text_calls w0 w b _ p r t hB hI (fun _ _ => trivial) h1 h2 hp (by omega))
  unfold restR
  clear hB hI hs hp hout
  by_cases k0 : s.pos = 0
  · rw [if_pos (show restB s = true by unfold restB; simp [k0])]
    rw [k0] at s0
    have HT2 := Aside0.mk (HTx.out p.size h1 (Nat.le_refl _))
    clear k0 HTx h1 h2
    go_enter Tryz.func49, Tryz.ntmps49
    go_wp2_with (go_at_call 111; refine HT2.out.mono ?_; rintro e w2 hT; obtain rfl := hT.ends)
    go_end0
    exact hT
  have n0 : (s.pos == 0) = false := by simpa using k0
  by_cases k1 : s.pos = 1
  · rw [if_pos (show restB s = true by unfold restB; simp [k1])]
    rw [k1] at s0
    have HT2 := Aside0.mk (HTx.out p.size h1 (Nat.le_refl _))
    clear k1 HTx h1 h2
    go_enter Tryz.func49, Tryz.ntmps49
    go_wp2_with (go_at_call 111; refine HT2.out.mono ?_; rintro e w2 hT; obtain rfl := hT.ends)
    go_end0
    exact hT
  have n1 : (s.pos == 1) = false := by simpa using k1
  by_cases k2 : s.pos = 2
  · rw [if_pos (show restB s = true by unfold restB; simp [k2])]
    rw [k2] at s0
    have HT2 := Aside0.mk (HTx.out p.size h1 (Nat.le_refl _))
    clear k2 HTx h1 h2
    go_enter Tryz.func49, Tryz.ntmps49
    go_wp2_with (go_at_call 111; refine HT2.out.mono ?_; rintro e w2 hT; obtain rfl := hT.ends)
    go_end0
    exact hT
  have n2 : (s.pos == 2) = false := by simpa using k2
  by_cases k19 : s.pos = 19
  · rw [if_pos (show restB s = true by unfold restB; simp [k19])]
    rw [k19] at s0
    have HT2 := Aside0.mk (HTx.out p.size h1 (Nat.le_refl _))
    clear k19 HTx h1 h2
    go_enter Tryz.func49, Tryz.ntmps49
    go_wp2_with (go_at_call 111; refine HT2.out.mono ?_; rintro e w2 hT; obtain rfl := hT.ends)
    go_end0
    exact hT
  have n19 : (s.pos == 19) = false := by simpa using k19
  by_cases k20 : s.pos = 20
  · rw [if_pos (show restB s = true by unfold restB; simp [k20])]
    rw [k20] at s0
    have HT2 := Aside0.mk (HTx.out p.size h1 (Nat.le_refl _))
    clear k20 HTx h1 h2
    go_enter Tryz.func49, Tryz.ntmps49
    go_wp2_with (go_at_call 111; refine HT2.out.mono ?_; rintro e w2 hT; obtain rfl := hT.ends)
    go_end0
    exact hT
  have n20 : (s.pos == 20) = false := by simpa using k20
  by_cases k21 : s.pos = 21
  · rw [if_pos (show restB s = true by unfold restB; simp [k21])]
    rw [k21] at s0
    have HT2 := Aside0.mk (HTx.out p.size h1 (Nat.le_refl _))
    clear k21 HTx h1 h2
    go_enter Tryz.func49, Tryz.ntmps49
    go_wp2_with (go_at_call 111; refine HT2.out.mono ?_; rintro e w2 hT; obtain rfl := hT.ends)
    go_end0
    exact hT
  have n21 : (s.pos == 21) = false := by simpa using k21
  by_cases k22 : s.pos = 22
  · rw [if_pos (show restB s = true by unfold restB; simp [k22])]
    rw [k22] at s0
    have HT2 := Aside0.mk (HTx.out p.size h1 (Nat.le_refl _))
    clear k22 HTx h1 h2
    go_enter Tryz.func49, Tryz.ntmps49
    go_wp2_with (go_at_call 111; refine HT2.out.mono ?_; rintro e w2 hT; obtain rfl := hT.ends)
    go_end0
    exact hT
  have n22 : (s.pos == 22) = false := by simpa using k22
  have hr : restB s = false := by unfold restB; rw [if_neg (by omega)]
  rw [if_neg (by rw [hr]; simp)]
  have HT2 := Aside0.mk (HTx.out r.op (h2 hr).1 (h2 hr).2)
  clear HTx h1 h2 hr
  go_enter Tryz.func49, Tryz.ntmps49
  go_wp2_with (go_at_call 111; refine HT2.out.mono ?_; rintro e w2 hT; obtain rfl := hT.ends)
  go_end0
  exact hT
end Go.Proofs.YtfmcdlbbbmeolaaGreatDoor.Tk
end
section
namespace Go.Proofs.YtfmcdlbbbmeolaaGreatDoor.Tk
open Go.RowKit Go.Proofs.YtfmcdlbbbmeolaaGreatDoorW.PrintWords Go.Proofs.YtfmcdlbbbmeolaaGreatDoorW.PrintLast Go.Proofs.YtfmcdlbbbmeolaaGreatDoorW.PrintMore
open Go.Proofs.YtfmcdlbbbmeolaaGreatDoor.Refs (lowN lowByte_calls)
attribute [local go_sem ↓] Go.wp_at_zero Go.wp_at_succ
set_option linter.unusedVariables false
set_option linter.unusedSimpArgs false
set_option maxRecDepth 100000
set_option maxHeartbeats 1600000 in
theorem heldSlash_calls (s : St) (c : Nat) (g : Nat) (w : World) (hc : c < 256) (h : StAt w g s) (hs : s.held.size ≤ 4611686018427387904) : Calls Tryz.prog 104 #[.pointer (some ⟨g, 0, none⟩), .int .u8 c] w (RetS (readsS s c 0) w) := by
  have hu40 := Tryz.underlying44
  have HS := Aside0.mk h
  clear h
  go_enter Tryz.func104, Tryz.ntmps104
  go_wp2_with (first
    | ((with_reducible refine gate_dst (N := 4) rfl ?_); refine box_event ?hg (N := 4) ?hd (cs := #[.int .i64 0, .string ⟨#[]⟩, .bool false, .string ⟨#[]⟩, .string ⟨#[]⟩, .int .i64 0]) (t := 44) ?hr ?_; (case hd => rfl); (case hg => rfl); (case hr => first | (go_simp; done) | (go_simp; rfl)); intro gb hgb w0_ hbox hb; have HF := Aside0.mk (Fr.start HS.out hgb hbox hb); clear hgb hbox hb; obtain ⟨s0, s1, s2, s3, s4, s5⟩ := HF.out.facts; obtain ⟨a0, a1, a2, a3, a4, a5, b0, b1, b2, b3, b4, b5⟩ := HF.out.rfacts)
    | (go_at_call 163; refine (reads_calls s c _ g _ hc (by first | exact HF.out.st | exact HF.out.drew.st) hs).mono ?_; rintro e w1 ⟨rfl, hb⟩; have HF := Aside0.mk (Fr.step (by (with_reducible repeat (first | exact HF.out | apply Fr.alloc | apply Fr.drew | apply Fr.drewN))) hb); clear hb; obtain ⟨s0, s1, s2, s3, s4, s5⟩ := HF.out.facts; obtain ⟨a0, a1, a2, a3, a4, a5, b0, b1, b2, b3, b4, b5⟩ := HF.out.rfacts))
  exact HF.out.ret rfl rfl rfl
set_option maxHeartbeats 1600000 in
theorem heldName_calls (s : St) (c : Nat) (g : Nat) (w : World) (hc : c < 256) (h : StAt w g s) (hs : s.held.size ≤ 4611686018427387904) : Calls Tryz.prog 105 #[.pointer (some ⟨g, 0, none⟩), .int .u8 c] w (RetS (heldNameS s c) w) := by
  have hu40 := Tryz.underlying44
  have HS := Aside0.mk h
  clear h
  by_cases q1 : s.read < s.held.size
  · have d1 : decide (s.read < (s.held.size : Int)) = true := decide_eq_true q1
    have HD := Aside0.mk (show heldNameS s c = readsS s c s.read by unfold heldNameS; rw [if_pos q1])
    clear q1
    go_enter Tryz.func105, Tryz.ntmps105
    go_wp2_with (first
      | ((with_reducible refine gate_dst (N := 4) rfl ?_); refine box_event ?hg (N := 4) ?hd (cs := #[.int .i64 0, .string ⟨#[]⟩, .bool false, .string ⟨#[]⟩, .string ⟨#[]⟩, .int .i64 0]) (t := 44) ?hr ?_; (case hd => rfl); (case hg => rfl); (case hr => first | (go_simp; done) | (go_simp; rfl)); intro gb hgb w0_ hbox hb; have HF := Aside0.mk (Fr.start HS.out hgb hbox hb); clear hgb hbox hb; obtain ⟨s0, s1, s2, s3, s4, s5⟩ := HF.out.facts; obtain ⟨a0, a1, a2, a3, a4, a5, b0, b1, b2, b3, b4, b5⟩ := HF.out.rfacts))
    refine start_ (n := 10) (S := fun w' => w'.cell? ⟨g, 4, none⟩ = some (.string s.held) ∧ w'.cell? ⟨g, 5, none⟩ = some (.int .i64 s.read)) (ds := []) #[false, false, false, false, false, false, false, false, false, false] (by kernel_rfl) rfl rfl ⟨s4, s5⟩ (fun hHeld => ?_)
    refine pS 0 8 #[true, false, false, false, false, false, false, false, false, false] ?_
    refine pS 1 9 #[true, true, false, false, false, false, false, false, false, false] ?_
    refine pS 2 10 #[true, true, true, false, false, false, false, false, false, false] ?_
    refine pS 4 12 #[true, true, true, false, true, false, false, false, false, false] ?_
    refine pS 5 13 #[true, true, true, false, true, true, false, false, false, false] ?_
    refine pS 6 14 #[true, true, true, false, true, true, true, false, false, false] ?_
    refine take_ (i := 3) (N := some 11) (v := ?_) (a' := ?_) #[true, true, true, true, true, true, true, false, false, false] rfl rfl (by kernel_rfl) (fun _ _ _ h => h) (Or.inl ⟨by rfl, ?_⟩) hHeld ?_ ?_
    rotate_left
    · rintro w' ⟨s0, s1⟩
      go_simp
      with_reducible rfl
    rotate_left
    · simp only [Act.put, zA, zZ, zS, i64_w, i32_w]
      rfl
    refine take_ (i := 7) (N := some 15) (v := ?_) (a' := ?_) #[true, true, true, true, true, true, true, true, false, false] rfl rfl (by kernel_rfl) (fun _ _ _ h => h) (Or.inl ⟨by rfl, ?_⟩) hHeld ?_ ?_
    rotate_left
    · rintro w' ⟨s0, s1⟩
      go_simp
      with_reducible rfl
    rotate_left
    · simp only [Act.put, zA, zZ, zS, i64_w, i32_w]
      rfl
    refine pS 8 16 #[true, true, true, true, true, true, true, true, true, false] ?_
    refine pS 9 17 #[true, true, true, true, true, true, true, true, true, true] ?_
    refine done_ (by kernel_rfl) ?_
    go_wp2_with (first
      | (go_at_call 163; refine (reads_calls s c _ g _ hc (by first | exact HF.out.st | exact HF.out.drew.st) hs).mono ?_; rintro e w1 ⟨rfl, hb⟩; have HF := Aside0.mk (Fr.step (by (with_reducible repeat (first | exact HF.out | apply Fr.alloc | apply Fr.drew | apply Fr.drewN))) hb); clear hb; obtain ⟨s0, s1, s2, s3, s4, s5⟩ := HF.out.facts; obtain ⟨a0, a1, a2, a3, a4, a5, b0, b1, b2, b3, b4, b5⟩ := HF.out.rfacts))
    rw [HD.out]
    exact HF.out.ret rfl rfl rfl
  · have d1 : decide (s.read < (s.held.size : Int)) = false := decide_eq_false q1
    have HBt := Aside0.mk (fun g w h => between_calls (⟨0, s.held, true, ⟨#[]⟩, ⟨#[]⟩, 0⟩ : St) c 4 g w hc h)
    by_cases q2 : ∃ o, betweenS (⟨0, s.held, true, ⟨#[]⟩, ⟨#[]⟩, 0⟩ : St) c 4 = some o
    · obtain ⟨o, ho⟩ := q2
      have HD := Aside0.mk (show heldNameS s c = o by unfold heldNameS; rw [if_neg q1, ho])
      rw [ho] at HBt
      clear q1 ho
      go_enter Tryz.func105, Tryz.ntmps105
      go_wp2_with (first
        | ((with_reducible refine gate_dst (N := 4) rfl ?_); refine box_event ?hg (N := 4) ?hd (cs := #[.int .i64 0, .string ⟨#[]⟩, .bool false, .string ⟨#[]⟩, .string ⟨#[]⟩, .int .i64 0]) (t := 44) ?hr ?_; (case hd => rfl); (case hg => rfl); (case hr => first | (go_simp; done) | (go_simp; rfl)); intro gb hgb w0_ hbox hb; have HF := Aside0.mk (Fr.start HS.out hgb hbox hb); clear hgb hbox hb; obtain ⟨s0, s1, s2, s3, s4, s5⟩ := HF.out.facts; obtain ⟨a0, a1, a2, a3, a4, a5, b0, b1, b2, b3, b4, b5⟩ := HF.out.rfacts))
      refine start_ (n := 10) (S := fun w' => w'.cell? ⟨g, 4, none⟩ = some (.string s.held) ∧ w'.cell? ⟨g, 5, none⟩ = some (.int .i64 s.read)) (ds := []) #[false, false, false, false, false, false, false, false, false, false] (by kernel_rfl) rfl rfl ⟨s4, s5⟩ (fun hHeld => ?_)
      refine pS 0 8 #[true, false, false, false, false, false, false, false, false, false] ?_
      refine pS 1 9 #[true, true, false, false, false, false, false, false, false, false] ?_
      refine pS 2 10 #[true, true, true, false, false, false, false, false, false, false] ?_
      refine pS 4 12 #[true, true, true, false, true, false, false, false, false, false] ?_
      refine pS 5 13 #[true, true, true, false, true, true, false, false, false, false] ?_
      refine pS 6 14 #[true, true, true, false, true, true, true, false, false, false] ?_
      refine take_ (i := 3) (N := some 11) (v := ?_) (a' := ?_) #[true, true, true, true, true, true, true, false, false, false] rfl rfl (by kernel_rfl) (fun _ _ _ h => h) (Or.inl ⟨by rfl, ?_⟩) hHeld ?_ ?_
      rotate_left
      · rintro w' ⟨s0, s1⟩
        go_simp
        with_reducible rfl
      rotate_left
      · simp only [Act.put, zA, zZ, zS, i64_w, i32_w]
        rfl
      refine take_ (i := 7) (N := some 15) (v := ?_) (a' := ?_) #[true, true, true, true, true, true, true, true, false, false] rfl rfl (by kernel_rfl) (fun _ _ _ h => h) (Or.inl ⟨by rfl, ?_⟩) hHeld ?_ ?_
      rotate_left
      · rintro w' ⟨s0, s1⟩
        go_simp
        with_reducible rfl
      rotate_left
      · simp only [Act.put, zA, zZ, zS, i64_w, i32_w]
        rfl
      refine pS 8 16 #[true, true, true, true, true, true, true, true, true, false] ?_
      refine pS 9 17 #[true, true, true, true, true, true, true, true, true, true] ?_
      refine done_ (by kernel_rfl) ?_
      go_wp2_with (first
        | (go_at_call 153; refine (HBt.out _ _ (heap_alloc_new w0_.drew _)).mono ?_; rintro e w1 ⟨rfl, hb⟩; have HF := Aside0.mk (Fr.step (by (with_reducible repeat (first | exact HF.out | apply Fr.alloc | apply Fr.drew | apply Fr.drewN))) hb); clear hb; have HF := Aside0.mk (HF.out.alloc (.cells #[.int .i64 o.pos, .string o.name, .bool o.fin, .string o.attr, .string o.held, .int .i64 o.read] 44)); obtain ⟨s0, s1, s2, s3, s4, s5⟩ := HF.out.facts; obtain ⟨a0, a1, a2, a3, a4, a5, b0, b1, b2, b3, b4, b5⟩ := HF.out.rfacts))
      rw [HD.out]
      exact HF.out.ret rfl rfl rfl
    · have hn_ : betweenS (⟨0, s.held, true, ⟨#[]⟩, ⟨#[]⟩, 0⟩ : St) c 4 = none := by
        cases hq_ : betweenS (⟨0, s.held, true, ⟨#[]⟩, ⟨#[]⟩, 0⟩ : St) c 4 with
        | none => rfl
        | some o => exact absurd ⟨o, hq_⟩ q2
      have HD := Aside0.mk (show heldNameS s c = holdsS s c by unfold heldNameS; rw [if_neg q1, hn_])
      rw [hn_] at HBt
      clear q1 q2 hn_
      go_enter Tryz.func105, Tryz.ntmps105
      go_wp2_with (first
        | ((with_reducible refine gate_dst (N := 4) rfl ?_); refine box_event ?hg (N := 4) ?hd (cs := #[.int .i64 0, .string ⟨#[]⟩, .bool false, .string ⟨#[]⟩, .string ⟨#[]⟩, .int .i64 0]) (t := 44) ?hr ?_; (case hd => rfl); (case hg => rfl); (case hr => first | (go_simp; done) | (go_simp; rfl)); intro gb hgb w0_ hbox hb; have HF := Aside0.mk (Fr.start HS.out hgb hbox hb); clear hgb hbox hb; obtain ⟨s0, s1, s2, s3, s4, s5⟩ := HF.out.facts; obtain ⟨a0, a1, a2, a3, a4, a5, b0, b1, b2, b3, b4, b5⟩ := HF.out.rfacts))
      refine start_ (n := 10) (S := fun w' => w'.cell? ⟨g, 4, none⟩ = some (.string s.held) ∧ w'.cell? ⟨g, 5, none⟩ = some (.int .i64 s.read)) (ds := []) #[false, false, false, false, false, false, false, false, false, false] (by kernel_rfl) rfl rfl ⟨s4, s5⟩ (fun hHeld => ?_)
      refine pS 0 8 #[true, false, false, false, false, false, false, false, false, false] ?_
      refine pS 1 9 #[true, true, false, false, false, false, false, false, false, false] ?_
      refine pS 2 10 #[true, true, true, false, false, false, false, false, false, false] ?_
      refine pS 4 12 #[true, true, true, false, true, false, false, false, false, false] ?_
      refine pS 5 13 #[true, true, true, false, true, true, false, false, false, false] ?_
      refine pS 6 14 #[true, true, true, false, true, true, true, false, false, false] ?_
      refine take_ (i := 3) (N := some 11) (v := ?_) (a' := ?_) #[true, true, true, true, true, true, true, false, false, false] rfl rfl (by kernel_rfl) (fun _ _ _ h => h) (Or.inl ⟨by rfl, ?_⟩) hHeld ?_ ?_
      rotate_left
      · rintro w' ⟨s0, s1⟩
        go_simp
        with_reducible rfl
      rotate_left
      · simp only [Act.put, zA, zZ, zS, i64_w, i32_w]
        rfl
      refine take_ (i := 7) (N := some 15) (v := ?_) (a' := ?_) #[true, true, true, true, true, true, true, true, false, false] rfl rfl (by kernel_rfl) (fun _ _ _ h => h) (Or.inl ⟨by rfl, ?_⟩) hHeld ?_ ?_
      rotate_left
      · rintro w' ⟨s0, s1⟩
        go_simp
        with_reducible rfl
      rotate_left
      · simp only [Act.put, zA, zZ, zS, i64_w, i32_w]
        rfl
      refine pS 8 16 #[true, true, true, true, true, true, true, true, true, false] ?_
      refine pS 9 17 #[true, true, true, true, true, true, true, true, true, true] ?_
      refine done_ (by kernel_rfl) ?_
      go_wp2_with (first
        | (go_at_call 153; refine (HBt.out _ _ (heap_alloc_new w0_.drew _)).mono ?_; rintro e w1 ⟨rfl, hb⟩; have HF := Aside0.mk (Fr.step (by (with_reducible repeat (first | exact HF.out | apply Fr.alloc | apply Fr.drew | apply Fr.drewN))) hb); clear hb; have HF := Aside0.mk (HF.out.alloc (.cells #[.int .i64 0, .string ⟨#[]⟩, .bool false, .string ⟨#[]⟩, .string ⟨#[]⟩, .int .i64 0] 44)); obtain ⟨s0, s1, s2, s3, s4, s5⟩ := HF.out.facts; obtain ⟨a0, a1, a2, a3, a4, a5, b0, b1, b2, b3, b4, b5⟩ := HF.out.rfacts)
        | (go_at_call 102; refine (holds_calls s c g _ hc (by first | exact HF.out.st | exact HF.out.drew.st)).mono ?_; rintro e w1 ⟨rfl, hb⟩; have HF := Aside0.mk (Fr.step (by (with_reducible repeat (first | exact HF.out | apply Fr.alloc | apply Fr.drew | apply Fr.drewN))) hb); clear hb; obtain ⟨s0, s1, s2, s3, s4, s5⟩ := HF.out.facts; obtain ⟨a0, a1, a2, a3, a4, a5, b0, b1, b2, b3, b4, b5⟩ := HF.out.rfacts))
      rw [HD.out]
      exact HF.out.ret rfl rfl rfl
end Go.Proofs.YtfmcdlbbbmeolaaGreatDoor.Tk
end
