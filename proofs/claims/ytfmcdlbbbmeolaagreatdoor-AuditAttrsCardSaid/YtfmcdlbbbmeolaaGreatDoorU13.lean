/- tree.builder's start: walked (slices.Clone, elem.Kind). tree.builder's end: walked. What tree.Build does, as plain functions; what holds on its way. tree.Build: walked. Build as a fold over the tokens. What holds of the nodes that Build makes: the plain shape. -/
import Derived.Test.YtfmcdlbbbmeolaaGreatDoorU0
import Derived.Test.YtfmcdlbbbmeolaaGreatDoorU12
import Derived.WalkSpells
import Derived.Lib.SliceRun
import Derived.Test.YtfmcdlbbbmeolaaGreatDoorU2
section
namespace Go.Proofs.YtfmcdlbbbmeolaaGreatDoor.Tr
open Go.RowKit Go.Proofs.YtfmcdlbbbmeolaaGreatDoor.XK Go.Proofs.YtfmcdlbbbmeolaaGreatDoorW.PrintWords Go.Proofs.YtfmcdlbbbmeolaaGreatDoorW.PrintLast Go.Proofs.YtfmcdlbbbmeolaaGreatDoorW.PrintMore
attribute [local go_sem ↓] Go.wp_at_zero Go.wp_at_succ
set_option linter.unusedVariables false
set_option linter.unusedSimpArgs false
def CloneP (xs : List S39) (w : World) (e : Ending) (w' : World) : Prop := ∃ v, e = .returned v ∧ Kd.R k39 39 w' w.heap.size (fun _ => True) v xs ∧ Below w.heap.size w w'
set_option maxHeartbeats 1600000 in
theorem clone_calls (xs : List S39) (A : Option Addr) (c : Nat) (w : World) (hx : Kd.C k39 w A xs.length xs) (hl : xs.length ≤ 4398046511103) :
    Calls Tryz.prog 177 #[.slice A xs.length c] w (CloneP xs w) := by
  have hnil := fun W : World => Lib.run_eql_slice_nil (P := Tryz.prog) W 35 39 A xs.length c 0 0 Tryz.underlying35
  have HX := Aside0.mk hx
  have HL := Aside0.mk hl
  have HO := Aside0.mk (show Kd.R k39 39 (w.alloc (.cells #[] 39)) w.heap.size (fun _ => True) (.slice (some ⟨w.heap.size, 0, none⟩) 0 0) [] from ⟨fun _ _ => trivial, OwnRow.lit w w.heap.size (Reps.none _ _) (Nat.le_refl _) (by decide)⟩)
  clear hx hl
  rcases A with _ | ad
  · have h0 : xs = [] := by
      rcases List.eq_nil_or_concat xs with h | ⟨l, x, rfl⟩
      · exact h
      · obtain ⟨ad, h, _⟩ := HX.out.2.2 (by simp)
        cases h
    subst h0
    simp only [Option.isNone_none, List.length_nil] at hnil
    go_enter Tryz.func177, Tryz.ntmps177
    go_wp2
    go_ret
    exact ⟨_, rfl, Kd.R_nil _ _ _ _ _, Below.refl _ _⟩
  · simp only [Option.isNone_some] at hnil
    go_enter Tryz.func177, Tryz.ntmps177
    go_wp2_with (at_builtin; refine Kd.R_append_rows k39 (w0 := w) w.heap.size rfl (.tmp 5) (.tmp 6) 35 39 (.agg #[(.string ⟨#[]⟩), (.string ⟨#[]⟩)]) 32 rfl Tryz.underlying35 info39 rfl (by decide) (by decide) (.slice (some ⟨w.heap.size, 0, none⟩) 0 0) [] xs (some ad) xs.length c (fun _ => True) (fun _ => False) rfl rfl HO.out (Kd.C_alloc HX.out _) (fun _ _ h => h) (fun _ h => h.elim) (fun _ _ => trivial) ((Below.refl _ _).alloc (Nat.le_refl _) _) ((Below.refl w.heap.size w).alloc (Nat.le_refl _) _).size (by have := HL.out; simp only [List.length_nil]; omega) ?_; intro v1 w1 ho hb hg hat; rw [List.nil_append] at ho)
    go_ret
    exact ⟨_, rfl, ho, hb⟩
theorem ex_ite {α : Type} {c : Prop} [Decidable c] {a b : Option α} (h1 : ∃ v, a = some v) (h2 : ∃ v, b = some v) : ∃ v, (if c then a else b) = some v := by
  by_cases h : c
  · rw [if_pos h]; exact h1
  · rw [if_neg h]; exact h2
theorem kind_some (s : ByteArray) : ∃ v, elem_Kind.f 3 s = some v := by
  unfold elem_Kind.f
  simp only [elem_Kind.j0, elem_Kind.j1]
  repeat' first | exact ⟨_, rfl⟩ | refine ex_ite ?_ ?_
def kindOf (s : ByteArray) : Int := (elem_Kind.f 3 s).getD 0
theorem kind_def (s : ByteArray) : elem_Kind.f 3 s = some (kindOf s) := by
  obtain ⟨v, hv⟩ := kind_some s
  unfold kindOf; rw [hv]; rfl
theorem kind_calls (s : ByteArray) (w : World) : Calls Tryz.prog 167 #[.string s] w fun e w' => e = .returned (.int .i64 (kindOf s)) ∧ Drawn0 w w' := elem_Kind.calls 3 s _ w (kind_def s)
theorem Bd.old {T : Nat} {w w1 : World} {base b : Nat} {ok : Nat → Prop} {ns : List S69} {op : List Int} (h : Bd T w base b ok ns op) (hb : Below w.heap.size w w1) : Bd T w1 base b (fun k => ok k ∧ k < w.heap.size) ns op := by
  obtain ⟨h0, v0, v1, h1, h2, h3⟩ := h
  exact ⟨h0, v0, v1, (hb.block b (blk_lt h1)).trans h1, Kd.S_old h2 hb, Kd.R_below h3 hb⟩
theorem R_fresh {w w1 : World} {base : Nat} {v : Value} {xs : List S39} (h : Kd.R k39 39 w1 w.heap.size (fun _ => True) v xs) (hb : base ≤ w.heap.size) : Kd.R k39 39 w1 base (fun k => w.heap.size ≤ k) v xs :=
  Kd.R_lower (Kd.R_mono (Kd.R_bound h) (fun k hk => hk.2.1)) hb
def startOp (ns : List S69) (op : List Int) (nm : ByteArray) : List Int := if kindOf nm ≠ 1 ∧ op.length ≤ 32 then op ++ [(ns.length : Int)] else op
set_option maxHeartbeats 3200000 in
set_option maxRecDepth 100000 in
theorem start_calls (w0 w : World) (b : Nat) (ns : List S69) (op : List Int) (nm : ByteArray) (ats : List S39) (p : Addr) (A : Option Addr) (c : Nat)
    (hB : Below w0.heap.size w0 w) (hI : Bd 132 w w0.heap.size b (fun _ => True) ns op) (hop : op ≠ []) (hlen : op.length ≤ 4611686018) (hns : ns.length ≤ 4611686017)
    (h1 : w.cell? ⟨p.block, p.off + 1, none⟩ = some (.string nm)) (h3 : w.cell? ⟨p.block, p.off + 3, none⟩ = some (.slice A ats.length c)) (hC : Kd.C k39 w A ats.length ats) (hl : ats.length ≤ 4398046511103) (hpb : p.block < w0.heap.size) :
    Calls Tryz.prog 123 #[.pointer (some ⟨b, 0, none⟩), .pointer (some p)] w fun e w' => e = .returned (.tuple #[]) ∧
      Bd 132 w' w0.heap.size b (fun _ => True) (ns ++ [⟨1, nm, ⟨#[]⟩, ats, lastOf op⟩]) (startOp ns op nm) ∧ Below w0.heap.size w0 w' := by
  have HCl := Aside0.mk (clone_calls ats A c w.drew (Kd.C_drew hC) hl)
  have hno0 := fun (w3 : World) (va : Value) (hb3 : Below w.drew.heap.size w.drew w3) (hva : Kd.R k39 39 w3 w.drew.heap.size (fun _ => True) va ats) =>
    node_calls w0 w3 b (fun k => w.drew.heap.size ≤ k) ns op 1 0 nm ⟨#[]⟩ va ats (hB.drew.trans (hb3.mono hB.size)) (((hI.drewN 1).old hb3).mono (fun k hk => Nat.not_le.2 hk.2)) (R_fresh hva hB.size) hop (by omega) (by omega)
  obtain ⟨ns1, hn1⟩ : ∃ ns1 : List S69, ns ++ [⟨1, nm, ⟨#[]⟩, ats, lastOf op⟩] = ns1 := ⟨_, rfl⟩
  have hn1l : ns1.length = ns.length + 1 := by rw [← hn1]; simp
  have HN1L := Aside0.mk hn1l
  rw [hn1] at hno0 ⊢
  have HNo := Aside0.mk hno0
  clear hno0 hn1 hn1l
  have HP := Aside0.mk hpb
  have HP1 := Aside0.mk h1
  have HB := Aside0.mk hB
  have HW := Aside0.mk hB.size
  have hu := Tryz.underlying41
  clear hI hC hpb hB hop hl
  go_enter Tryz.func123, Tryz.ntmps123
  go_wp2
  refine start_ (n := 12) (S := fun w' => w'.cell? ⟨p.block, p.off + 1, none⟩ = some (.string nm) ∧ w'.cell? ⟨p.block, p.off + 3, none⟩ = some (.slice A ats.length c)) (ds := [11]) #[false, false, false, false, false, false, false, false, false, false, false, false] (by kernel_rfl) rfl rfl ⟨h1, h3⟩ (fun hHeld => ?_)
  refine pS 0 4 #[true, false, false, false, false, false, false, false, false, false, false, false] ?_
  refine pS 1 5 #[true, true, false, false, false, false, false, false, false, false, false, false] ?_
  refine pS 2 6 #[true, true, true, false, false, false, false, false, false, false, false, false] ?_
  refine pS 3 7 #[true, true, true, true, false, false, false, false, false, false, false, false] ?_
  refine pS 5 9 #[true, true, true, true, false, true, false, false, false, false, false, false] ?_
  refine pS 6 10 #[true, true, true, true, false, true, true, false, false, false, false, false] ?_
  refine pS 7 11 #[true, true, true, true, false, true, true, true, false, false, false, false] ?_
  refine take_ (i := 4) (N := some 8) (v := ?_) (a' := ?_) #[true, true, true, true, true, true, true, true, false, false, false, false] rfl rfl (by kernel_rfl) (fun _ _ _ h => h) (Or.inl ⟨by rfl, ?_⟩) hHeld ?_ ?_
  rotate_left
  · rintro w' ⟨s0, s1⟩
    go_simp
    with_reducible rfl
  rotate_left
  · simp only [Act.put, zA, zZ, zS, i64_w, i32_w]
    rfl
  refine take_ (i := 8) (N := some 12) (v := ?_) (a' := ?_) #[true, true, true, true, true, true, true, true, true, false, false, false] rfl rfl (by kernel_rfl) (fun _ _ _ h => h) (Or.inl ⟨by rfl, ?_⟩) hHeld ?_ ?_
  rotate_left
  · rintro w' ⟨s0, s1⟩
    go_simp
    with_reducible rfl
  rotate_left
  · simp only [Act.put, zA, zZ, zS, i64_w, i32_w]
    rfl
  refine one_ (i := 9) (N := some 13) #[true, true, true, true, true, true, true, true, true, true, false, false] rfl rfl (by kernel_rfl) (by decide) (fun K hK => ?_)
  refine goes_ Tryz.func177 (by kernel_rfl) rfl #[.slice A ats.length c] (by rfl) rfl rfl (by simp only [List.map_toArray, List.map_cons, List.map_nil]; rfl) ?_
  with_reducible refine (HCl.out).mono ?_
  rintro e w3 ⟨va, rfl, hva, hb3⟩
  refine ⟨_, rfl, ?_⟩
  obtain ⟨va1, va2, eva⟩ := Kd.R_slice hva
  subst eva
  refine hK.out _ _ ⟨((hb3.cell (p := ⟨p.block, p.off + 1, none⟩) (Nat.lt_of_lt_of_le HP.out HW.out)).trans h1), ((hb3.cell (p := ⟨p.block, p.off + 3, none⟩) (Nat.lt_of_lt_of_le HP.out HW.out)).trans h3)⟩ (fun hHeld => ?_)
  clear hK K
  refine norm_ (a' := ?_) ?_ ?_
  rotate_left
  · show Act.put _ (some 13) _ = _
    simp only [Act.put, zA, zZ, zS, i64_w, i32_w]
    rfl
  refine pS 10 14 #[true, true, true, true, true, true, true, true, true, true, true, false] ?_
  refine last_ (i := 11) (N := some 15) #[true, true, true, true, true, true, true, true, true, true, true, true] rfl rfl (by kernel_rfl) (by decide) (fun K hK => ?_)
  refine goes_ Tryz.func122 (by kernel_rfl) rfl #[.pointer (some ⟨b, 0, none⟩), .agg #[.int .i64 1, .string nm, .string ⟨#[]⟩, .slice va1 ats.length va2, .int .i64 0]] (by rfl) rfl rfl (by simp only [List.map_toArray, List.map_cons, List.map_nil]; rfl) ?_
  with_reducible refine (HNo.out w3 _ hb3 hva).mono ?_
  rintro e w4 ⟨rfl, hbd, hb4⟩
  refine ⟨_, rfl, ?_⟩
  refine hK.out _ _ ?_
  clear hK K
  refine norm_ (a' := ?_) ?_ ?_
  rotate_left
  · show Act.put _ (some 15) _ = _
    simp only [Act.put, zA, zZ, zS, i64_w, i32_w]
    rfl
  refine done_ (by kernel_rfl) ?_
  have g1 := (hb4.cell (p := ⟨p.block, p.off + 1, none⟩) HP.out).trans ((HB.out.cell (p := ⟨p.block, p.off + 1, none⟩) HP.out).symm.trans HP1.out)
  have HK := Aside0.mk (kind_calls nm w4)
  have HB4 := Aside0.mk hb4
  have HBD := Aside0.mk hbd
  clear h1 h3 HCl HNo HP1 HB hva hb3 hb4
  obtain ⟨hb0, v0, v1, hb1, hs, hr⟩ := hbd
  obtain ⟨A0, c0, rfl⟩ := Kd.S_slice hs
  obtain ⟨A1, c1, rfl⟩ := Kd.R_slice hr
  have y0 : w4.cell? ⟨b, 0, none⟩ = some (.slice A0 ns1.length c0) := (blk_cell hb1 0).trans rfl
  have y1 : w4.cell? ⟨b, 1, none⟩ = some (.slice A1 op.length c1) := (blk_cell hb1 1).trans rfl
  have HB0 := Aside0.mk hb0
  have HB1 := Aside0.mk hb1
  have HS := Aside0.mk hs
  have HR := Aside0.mk hr
  clear hb0 hb1 hs hr
  by_cases k1 : kindOf nm = 1
  · rw [k1] at HK
    have HO := Aside0.mk (show startOp ns op nm = op by unfold startOp; rw [if_neg (fun h => h.1 k1)])
    clear k1
    go_wp2_with (go_at_call 167; refine HK.out.mono ?_; rintro e w5 ⟨rfl, ⟨m, rfl⟩⟩)
    go_end0
    rw [HO.out]
    exact ⟨rfl, HBD.out.drewN _, pw_below_drewN HB4.out _⟩
  · have k1b : (kindOf nm == 1) = false := by simpa using k1
    have k1c : (kindOf nm != 1) = true := by simpa using k1
    by_cases k2 : op.length ≤ 32
    · have k2b : (op.length : Int) ≤ 32 := by omega
      have HO := Aside0.mk (show startOp ns op nm = op ++ [(ns.length : Int)] by unfold startOp; rw [if_pos ⟨k1, k2⟩])
      clear k1
      go_wp2_with (go_at_call 167; refine HK.out.mono ?_; rintro e w5 ⟨rfl, ⟨m, rfl⟩⟩)
      obtain ⟨w5, h5⟩ : ∃ w5, w4.drewN m = w5 := ⟨_, rfl⟩
      rw [h5]
      replace y0 : w5.cell? ⟨b, 0, none⟩ = some (.slice A0 ns1.length c0) := by rw [← h5]; exact y0
      replace y1 : w5.cell? ⟨b, 1, none⟩ = some (.slice A1 op.length c1) := by rw [← h5]; exact y1
      have HB1' := Aside0.mk (show w5.heap[b]? = some (.cells #[.slice A0 ns1.length c0, .slice A1 op.length c1] 132 (0, 0)) by rw [← h5]; exact HB1.out)
      have HS' := Aside0.mk (show Kd.S k69 69 w5 w0.heap.size (fun _ => True) (.slice A0 ns1.length c0) ns1 by rw [← h5]; exact Kd.S_drewN HS.out m)
      have HR' := Aside0.mk (show Kd.R (Kd.int .i64) 3 w5 w0.heap.size (fun _ => True) (.slice A1 op.length c1) op by rw [← h5]; exact Kd.R_drewN HR.out m)
      have HB5 := Aside0.mk (show Below w0.heap.size w0 w5 by rw [← h5]; exact pw_below_drewN HB4.out m)
      have HBV := Aside0.mk (show some b ≠ (Value.slice A1 op.length c1).ownBlock from Kd.R_ne HR'.out HB1'.out (by decide))
      have hw : IntKind.i64.wrap ((ns1.length : Int) - 1) = (ns.length : Int) := by rw [HN1L.out, show ((ns.length + 1 : Nat) : Int) - 1 = (ns.length : Int) by omega]; exact IntWalk.i64_in _ (by omega)
      clear h5 HB1 HS HR HB4 HBD g1 HK hHeld k1b k1c k2b
      refine start_ (n := 16) (S := fun w' => w'.cell? ⟨b, 0, none⟩ = some (.slice A0 ns1.length c0) ∧ w'.cell? ⟨b, 1, none⟩ = some (.slice A1 op.length c1)) (ds := [15]) #[false, false, false, false, false, false, false, false, false, false, false, false, false, false, false, false] (by kernel_rfl) rfl rfl ⟨y0, y1⟩ (fun hHeld => ?_)
      refine pS 0 30 #[true, false, false, false, false, false, false, false, false, false, false, false, false, false, false, false] ?_
      refine pS 1 31 #[true, true, false, false, false, false, false, false, false, false, false, false, false, false, false, false] ?_
      refine pS 2 32 #[true, true, true, false, false, false, false, false, false, false, false, false, false, false, false, false] ?_
      refine pS 3 33 #[true, true, true, true, false, false, false, false, false, false, false, false, false, false, false, false] ?_
      refine pS 5 35 #[true, true, true, true, false, true, false, false, false, false, false, false, false, false, false, false] ?_
      refine pS 6 36 #[true, true, true, true, false, true, true, false, false, false, false, false, false, false, false, false] ?_
      refine pS 7 37 #[true, true, true, true, false, true, true, true, false, false, false, false, false, false, false, false] ?_
      refine take_ (i := 4) (N := some 34) (v := ?_) (a' := ?_) #[true, true, true, true, true, true, true, true, false, false, false, false, false, false, false, false] rfl rfl (by kernel_rfl) (fun _ _ _ h => h) (Or.inl ⟨by rfl, ?_⟩) hHeld ?_ ?_
      rotate_left
      · rintro w' ⟨s0, s1⟩
        go_simp
        with_reducible rfl
      rotate_left
      · simp only [Act.put, zA, zZ, zS, i64_w, i32_w]
        rfl
      refine take_ (i := 8) (N := some 38) (v := ?_) (a' := ?_) #[true, true, true, true, true, true, true, true, true, false, false, false, false, false, false, false] rfl rfl (by kernel_rfl) (fun _ _ _ h => h) (Or.inl ⟨by rfl, ?_⟩) hHeld ?_ ?_
      rotate_left
      · rintro w' ⟨s0, s1⟩
        go_simp
        with_reducible rfl
      rotate_left
      · simp only [Act.put, zA, zZ, zS, i64_w, i32_w]
        rfl
      refine pS 9 39 #[true, true, true, true, true, true, true, true, true, true, false, false, false, false, false, false] ?_
      refine pS 10 40 #[true, true, true, true, true, true, true, true, true, true, true, false, false, false, false, false] ?_
      refine one_ (i := 11) (N := some 41) #[true, true, true, true, true, true, true, true, true, true, true, true, false, false, false, false] rfl rfl (by kernel_rfl) (by decide) (fun K hK => ?_)
      refine value_ (w1 := ?_) (v := ?_) (by rfl) rfl ?_ ?_
      rotate_left 2
      · go_simp
        constructor
        · rfl
        · rfl
      refine hK.out _ _ ⟨(cell_alloc (w := w5.drew) y0 _), (cell_alloc (w := w5.drew) y1 _)⟩ (fun hHeld => ?_)
      clear hK K
      refine norm_ (a' := ?_) ?_ ?_
      rotate_left
      · show Act.put _ (some 41) _ = _
        simp only [Act.put, zA, zZ, zS, i64_w, i32_w]
        rfl
      refine one_ (i := 12) (N := some 42) #[true, true, true, true, true, true, true, true, true, true, true, true, true, false, false, false] rfl rfl (by kernel_rfl) (by decide) (fun K hK => ?_)
      refine Kd.R_append_step (Kd.int .i64) (w0 := w0) (W := w5.drew) w0.heap.size (by rfl) (.tmp 34) (.tmp 41) 33 3 (.int .i64 0) 8 (by rfl) Tryz.underlying33 infoInt (by rfl) (by decide) (by decide) (.slice A1 op.length c1) op (ns.length : Int) [.int .i64 (ns.length : Int)] (fun _ => True) (fun _ => False) (by rfl) (by rfl) rfl (fun q hq => hq.elim) (fun _ _ => trivial) (Kd.R_drew HR'.out) (below_drew HB5.out) (below_drew HB5.out).size (by omega) ?_
      intro v9 w9 hR9 hB9 hgr hat
      obtain ⟨A9, c9, e9⟩ := Kd.R_slice hR9
      rw [List.length_append, List.length_singleton] at e9
      subst e9
      have b9 : w9.heap[b]? = some (.cells #[.slice A0 ns1.length c0, .slice A1 op.length c1] 132 (0, 0)) := blk_grown (w := w5.drew) HB1'.out hgr HBV.out
      have z0 : w9.cell? ⟨b, 0, none⟩ = some (.slice A0 ns1.length c0) := (blk_cell b9 0).trans rfl
      have z1 : w9.cell? ⟨b, 1, none⟩ = some (.slice A1 op.length c1) := (blk_cell b9 1).trans rfl
      have f9 : w9.frozen? ⟨b, 1, none⟩ = false := blk_frozen b9 1
      refine hK.out _ _ ⟨z0, z1⟩ (fun hHeld => ?_)
      clear hK K
      refine norm_ (a' := ?_) ?_ ?_
      rotate_left
      · show Act.put _ (some 42) _ = _
        simp only [Act.put, zA, zZ, zS, i64_w, i32_w]
        rfl
      refine pS 13 43 #[true, true, true, true, true, true, true, true, true, true, true, true, true, true, false, false] ?_
      refine pS 14 44 #[true, true, true, true, true, true, true, true, true, true, true, true, true, true, true, false] ?_
      refine last_ (i := 15) (N := none) #[true, true, true, true, true, true, true, true, true, true, true, true, true, true, true, true] rfl rfl (by kernel_rfl) (by decide) (fun K hK => ?_)
      refine skip_ (w1 := ?_) (by rfl) rfl ?_ ?_
      rotate_left
      · go_simp
        rfl
      refine hK.out _ _ ?_
      clear hK K
      refine done_ (by kernel_rfl) ?_
      go_end0
      rw [HO.out]
      exact ⟨rfl, ⟨HB0.out, _, _, blk_set b9 1 _, Kd.S_set (Kd.S_over' (Kd.S_drew HS'.out) (fun q hq => Kd.R_typed HR'.out q hq) (by decide) hgr) b9 (by decide) 1 _, Kd.R_set hR9 b9 (by decide) 1 _⟩, hB9.setCell HB0.out _⟩
    · have k2b : decide ((op.length : Int) ≤ 32) = false := decide_eq_false (by omega)
      have HO := Aside0.mk (show startOp ns op nm = op by unfold startOp; rw [if_neg (fun h => k2 h.2)])
      clear k1 k2
      go_wp2_with (go_at_call 167; refine HK.out.mono ?_; rintro e w5 ⟨rfl, ⟨m, rfl⟩⟩)
      go_end0
      rw [HO.out]
      exact ⟨rfl, HBD.out.drewN _, pw_below_drewN HB4.out _⟩
def nameAt (ns : List S69) (op : List Int) (i : Nat) : ByteArray := (rd_T69 ns (rd op (i : Int))).f1
def endAt (ns : List S69) (op : List Int) (nm : ByteArray) : Nat → List Int
  | 0 => op
  | i + 1 => if (nameAt ns op (i + 1)).toList = nm.toList then op.take (i + 1) else endAt ns op nm i
def endOp (ns : List S69) (op : List Int) (nm : ByteArray) : List Int := endAt ns op nm (op.length - 1)
def OpOk (ns : List S69) (op : List Int) : Prop := ∀ x ∈ op, 0 ≤ x ∧ x < (ns.length : Int)
theorem rd_get (op : List Int) (i : Nat) (hi : i < op.length) : rd op (i : Int) = op[i] := by simp [rd, List.getD_eq_getElem?_getD, List.getElem?_eq_getElem hi]
theorem opOk_rd {ns : List S69} {op : List Int} (h : OpOk ns op) (i : Nat) (hi : i < op.length) : 0 ≤ rd op (i : Int) ∧ rd op (i : Int) < (ns.length : Int) := by
  rw [rd_get op i hi]
  exact h _ (List.getElem_mem _)
set_option maxHeartbeats 3200000 in
set_option maxRecDepth 100000 in
theorem end_calls (w0 w : World) (b : Nat) (ns : List S69) (op : List Int) (nm : ByteArray)
    (hB : Below w0.heap.size w0 w) (hI : Bd 132 w w0.heap.size b (fun _ => True) ns op) (hop : op ≠ []) (hlen : op.length ≤ 4611686018) (hok : OpOk ns op) :
    Calls Tryz.prog 124 #[.pointer (some ⟨b, 0, none⟩), .string nm] w fun e w' => e = .returned (.tuple #[]) ∧
      Bd 132 w' w0.heap.size b (fun _ => True) ns (endOp ns op nm) ∧ Below w0.heap.size w0 w' := by
  have HBD := Aside0.mk hI
  obtain ⟨hb0, v0, v1, hb1, hs, hr⟩ := hI
  obtain ⟨A0, c0, rfl, hc0, hC0⟩ := Kd.S_reads hs
  obtain ⟨A1, c1, rfl, hc1, hC1⟩ := Kd.R_reads hr
  have y0 : w.cell? ⟨b, 0, none⟩ = some (.slice A0 ns.length c0) := (blk_cell hb1 0).trans rfl
  have y1 : w.cell? ⟨b, 1, none⟩ = some (.slice A1 op.length c1) := (blk_cell hb1 1).trans rfl
  have f1 : w.frozen? ⟨b, 1, none⟩ = false := blk_frozen hb1 1
  have hl : 0 < op.length := List.length_pos_iff.2 hop
  have hns : ns.length ≤ 9223372036854775807 := hC0.2.1
  have HB := Aside0.mk hB
  have HB0 := Aside0.mk hb0
  have HB1 := Aside0.mk hb1
  have HS := Aside0.mk hs
  have HR := Aside0.mk hr
  have HC0 := Aside0.mk hC0
  have HC1 := Aside0.mk hC1
  have HOK := Aside0.mk hok
  have HCC := Aside0.mk hc1
  have hu := Tryz.underlying69
  clear hb0 hb1 hs hr hC0 hC1 hB hok hop hc0 hc1
  go_enter Tryz.func124, Tryz.ntmps124
  go_wp2
  go_loopw [4] (fun i wr => ∃ k m : Nat, i = .int .i64 (k : Int) ∧ k < op.length ∧ Aside0 (endOp ns op nm = endAt ns op nm k) ∧ wr = w.drewN m)
    (fun i _ => (RowKit.intOf i).toNat)
  case atStart => exact ⟨op.length - 1, 0, by congr 1; omega, by omega, ⟨rfl⟩, rfl⟩
  case round =>
    obtain ⟨k, m, rfl, hk, HE, rfl⟩ := hrel
    rcases Nat.eq_zero_or_pos k with h0 | h0
    · subst h0
      go_wp2
      go_end0
      rw [HE.out]
      exact ⟨rfl, HBD.out.drewN _, pw_below_drewN HB.out _⟩
    · obtain ⟨ad1, e1, hx1⟩ := Kd.at_int HC1.out (k : Int) (by omega) (by omega)
      cases e1
      obtain ⟨x, hx⟩ : ∃ x, rd op (k : Int) = x := ⟨_, rfl⟩
      obtain ⟨hxa, hxb⟩ := opOk_rd HOK.out k hk
      rw [hx] at hx1 hxa hxb
      obtain ⟨ad0, A3, c3, e0, _, g1, _⟩ := at_T69 HC0.out x hxa hxb
      cases e0
      have hnm : (rd_T69 ns x).f1 = nameAt ns op k := by unfold nameAt; rw [hx]
      rw [hnm] at g1
      simp only [Int.toNat_natCast] at hx1
      have q0 : (0 ≤ x) = True := eq_true hxa
      have q1 : (x < (ns.length : Int)) = True := eq_true hxb
      have hk1 : (0 : Int) < (k : Int) := by omega
      have hk0 : (0 : Int) ≤ (k : Int) := by omega
      have hk2 : (k : Int) < (op.length : Int) := by omega
      have hEE : endAt ns op nm k = if (nameAt ns op k).toList = nm.toList then op.take k else endAt ns op nm (k - 1) := by
        obtain ⟨k', rfl⟩ : ∃ k', k = k' + 1 := ⟨k - 1, by omega⟩
        rfl
      clear hxa hxb hx hnm
      by_cases hq : (nameAt ns op k).toList = nm.toList
      · have hqb : ((nameAt ns op k).toList == nm.toList) = true := by simpa using hq
        rw [if_pos hq] at hEE
        have HQ := Aside0.mk (HE.out.trans hEE)
        obtain ⟨i0, hi0, _⟩ := Option.map_eq_some_iff.1 infoInt
        have hsl := take_run (P := Tryz.prog) 33 3 .i64 Tryz.underlying33 hi0 (some ad1) op.length c1 k (by have := HCC.out; omega)
        clear hq hEE HE
        go_wp2
        go_quiet (fail)
        go_wp2
        refine bodyPost_ret (results_none rfl _ _ _) rfl ?_
        rw [HQ.out]
        exact ⟨rfl, ⟨HB0.out, _, _, blk_set (w := w.drewN _) HB1.out 1 _, Kd.S_set (Kd.S_drewN HS.out _) HB1.out (by decide) 1 _, Kd.R_set (Kd.R_drewN (Kd.R_take HR.out (Nat.le_of_lt hk)) _) HB1.out (by decide) 1 _⟩, (pw_below_drewN HB.out _).setCell HB0.out _⟩
      · have hqb : ((nameAt ns op k).toList == nm.toList) = false := by simpa using hq
        rw [if_neg hq] at hEE
        have HQ := Aside0.mk (HE.out.trans hEE)
        clear hq hEE HE
        go_wp2
        go_quiet (fail)
        go_wp2
        go_roundw
        case rel => exact ⟨k - 1, _, by congr 1; omega, by omega, HQ, rfl⟩
        case measure => simp [RowKit.intOf]; omega
end Go.Proofs.YtfmcdlbbbmeolaaGreatDoor.Tr
end
section
namespace Go.Proofs.YtfmcdlbbbmeolaaGreatDoor.Tr
open Go.RowKit Go.Proofs.YtfmcdlbbbmeolaaGreatDoor.XK Go.Proofs.YtfmcdlbbbmeolaaGreatDoorW.PrintWords Go.Proofs.YtfmcdlbbbmeolaaGreatDoorW.PrintLast Go.Proofs.YtfmcdlbbbmeolaaGreatDoorW.PrintMore
set_option linter.unusedVariables false
set_option linter.unusedSimpArgs false
def root : S69 := ⟨0, ⟨#[]⟩, ⟨#[]⟩, [], -1⟩
def stepF (ns : List S69) (op : List Int) (t : S41) : List S69 × List Int :=
  if t.f0 = 0 then (textF ns op t.f2, op)
  else if t.f0 = 3 then (ns ++ [⟨3, ⟨#[]⟩, t.f2, [], lastOf op⟩], op)
  else if t.f0 = 1 then (ns ++ [⟨1, t.f1, ⟨#[]⟩, t.f3, lastOf op⟩], startOp ns op t.f1)
  else (ns, endOp ns op t.f1)
def runF : List S41 → List S69 → List Int → Option (List S69)
  | [], ns, _ => some ns
  | t :: ts, ns, op => if (stepF ns op t).1.length > 4096 then none else runF ts (stepF ns op t).1 (stepF ns op t).2
def resF : Option (List S69) → List S69 × Int
  | some ns => (ns, 0)
  | none => ([], 701)
def buildF (ts : List S41) : List S69 × Int :=
  if ts.all mayB = true then resF (runF ts [root] [0]) else ([], 700)
def texts (ns : List S69) : Nat := (ns.map fun x => x.f2.size).sum
def toks (ts : List S41) : Nat := (ts.map fun x => x.f2.size).sum
theorem texts_append (a b : List S69) : texts (a ++ b) = texts a + texts b := by simp [texts]
theorem texts_set (ns : List S69) : ∀ (i : Nat) (h : i < ns.length) (x : S69), texts (ns.set i x) + ns[i].f2.size = texts ns + x.f2.size := by
  induction ns with
  | nil => intro i h; simp at h
  | cons n ns ih =>
    intro i h x
    cases i with
    | zero => simp [texts]; omega
    | succ i =>
      have := ih i (by simpa using h) x
      simp only [texts, List.set_cons_succ, List.map_cons, List.sum_cons, List.getElem_cons_succ] at *
      omega
structure Good (ns : List S69) (op : List Int) (m : Nat) : Prop where
  op0 : op ≠ []
  op1 : op.length ≤ 33
  ok : OpOk ns op
  ns0 : ns ≠ []
  ns1 : ns.length ≤ 4096
  tx : texts ns ≤ m
theorem OpOk.more {ns ns' : List S69} {op : List Int} (h : OpOk ns op) (hl : ns.length ≤ ns'.length) : OpOk ns' op := fun x hx => by
  have := h x hx; omega
theorem endAt_sub (ns : List S69) (op : List Int) (nm : ByteArray) (h0 : op ≠ []) : ∀ i, i < op.length → endAt ns op nm i ≠ [] ∧ (endAt ns op nm i).length ≤ op.length ∧ ∀ x ∈ endAt ns op nm i, x ∈ op := by
  intro i
  induction i with
  | zero => intro _; exact ⟨h0, Nat.le_refl _, fun _ h => h⟩
  | succ i ih =>
    intro hi
    rw [endAt]
    split
    · refine ⟨fun h => ?_, by simp; omega, fun x hx => List.mem_of_mem_take hx⟩
      have h2 := congrArg List.length h
      rw [List.length_take, List.length_nil] at h2
      omega
    · exact ih (by omega)
theorem endOp_sub (ns : List S69) (op : List Int) (nm : ByteArray) (h0 : op ≠ []) : endOp ns op nm ≠ [] ∧ (endOp ns op nm).length ≤ op.length ∧ ∀ x ∈ endOp ns op nm, x ∈ op := by
  have := List.length_pos_iff.2 h0
  exact endAt_sub ns op nm h0 _ (by omega)
theorem textF_len (ns : List S69) (op : List Int) (s : ByteArray) : ns.length ≤ (textF ns op s).length ∧ (textF ns op s).length ≤ ns.length + 1 := by
  unfold textF
  split
  · split
    · simp
    · split <;> simp
  · simp
theorem textF_texts (ns : List S69) (op : List Int) (s : ByteArray) : texts (textF ns op s) ≤ texts ns + s.size := by
  unfold textF
  split
  · rename_i l hl
    split
    · rw [List.getLast?_eq_getElem?] at hl
      have hi : ns.length - 1 < ns.length := (List.getElem?_eq_some_iff.1 hl).1
      have hx := (List.getElem?_eq_some_iff.1 hl).2
      have := texts_set ns (ns.length - 1) hi ⟨l.f0, l.f1, l.f2 ++ s, l.f3, l.f4⟩
      rw [hx] at this
      have h2 : (l.f2 ++ s).size = l.f2.size + s.size := ByteArray.size_append
      simp only [h2] at this
      omega
    · split
      · omega
      · rw [texts_append]; simp [texts]
  · omega
theorem stepF_len (ns : List S69) (op : List Int) (t : S41) : ns.length ≤ (stepF ns op t).1.length ∧ (stepF ns op t).1.length ≤ ns.length + 1 := by
  unfold stepF
  split
  · exact textF_len ns op _
  split
  · simp
  split
  · simp
  · simp
theorem good_step {ns : List S69} {op : List Int} {m : Nat} (h : Good ns op m) (t : S41) (hl : (stepF ns op t).1.length ≤ 4096) : Good (stepF ns op t).1 (stepF ns op t).2 (m + t.f2.size) := by
  have hlen := (stepF_len ns op t).1
  have hne : ∀ l : List S69, ns.length ≤ l.length → l ≠ [] := by
    intro l hl e
    have := List.length_pos_iff.2 h.ns0
    rw [e, List.length_nil] at hl; omega
  unfold stepF at hl hlen ⊢
  split at hl
  · rename_i k
    rw [if_pos k] at hlen ⊢
    exact ⟨h.op0, h.op1, h.ok.more hlen, hne _ hlen, hl, by have := textF_texts ns op t.f2; have := h.tx; simp only; omega⟩
  rename_i k
  rw [if_neg k] at hlen ⊢
  split at hl
  · rename_i k
    rw [if_pos k] at hlen ⊢
    exact ⟨h.op0, h.op1, h.ok.more hlen, hne _ hlen, hl, by rw [texts_append]; have := h.tx; simp [texts] at *; omega⟩
  rename_i k
  rw [if_neg k] at hlen ⊢
  split at hl
  · rename_i k
    rw [if_pos k] at hlen ⊢
    refine ⟨?_, ?_, ?_, hne _ hlen, hl, by rw [texts_append]; have := h.tx; have e0 : texts [(⟨1, t.f1, ⟨#[]⟩, t.f3, lastOf op⟩ : S69)] = 0 := rfl; rw [e0]; omega⟩
    · unfold startOp; split
      · simp
      · exact h.op0
    · unfold startOp; split
      · rename_i q; simp; omega
      · exact h.op1
    · unfold startOp; split
      · intro x hx
        rcases List.mem_append.1 hx with hx | hx
        · exact h.ok.more hlen x hx
        · simp at hx; subst hx; simp; omega
      · exact h.ok.more hlen
  rename_i k
  rw [if_neg k] at hlen ⊢
  obtain ⟨e0, e1, e2⟩ := endOp_sub ns op t.f1 h.op0
  exact ⟨e0, by have := h.op1; simp only; omega, fun x hx => h.ok x (e2 x hx), h.ns0, hl, by have := h.tx; simp only; omega⟩
theorem good_root : Good [root] [0] 0 := ⟨by simp, by simp, fun x hx => by simp at hx; subst hx; simp, by simp, by simp, by simp [texts, root]; rfl⟩
theorem toks_take (ts : List S41) (k : Nat) (h : k < ts.length) : toks (ts.take (k + 1)) = toks (ts.take k) + ts[k].f2.size := by
  unfold toks; rw [List.take_succ_eq_append_getElem h, List.map_append, List.sum_append]; simp
theorem toks_le (ts : List S41) (k : Nat) : toks (ts.take k) ≤ toks ts := by
  have h : toks ts = toks (ts.take k) + toks (ts.drop k) := by
    unfold toks; rw [← List.sum_append, ← List.map_append, List.take_append_drop]
  omega
theorem getLast_mem_texts (ns : List S69) (l : S69) (h : l ∈ ns.getLast?) : l.f2.size ≤ texts ns := by
  have hm : l ∈ ns := List.mem_of_getLast? h
  unfold texts
  clear h
  induction ns with
  | nil => cases hm
  | cons n ns ih =>
    rcases List.mem_cons.1 hm with rfl | hm
    · simp
    · have := ih hm
      simp; omega
end Go.Proofs.YtfmcdlbbbmeolaaGreatDoor.Tr
end
section
namespace Go.Proofs.YtfmcdlbbbmeolaaGreatDoor.Tr
open Go.RowKit Go.Proofs.YtfmcdlbbbmeolaaGreatDoor.XK Go.Proofs.YtfmcdlbbbmeolaaGreatDoorW.PrintWords Go.Proofs.YtfmcdlbbbmeolaaGreatDoorW.PrintLast Go.Proofs.YtfmcdlbbbmeolaaGreatDoorW.PrintMore
attribute [local go_sem ↓] Go.wp_at_zero Go.wp_at_succ
set_option linter.unusedVariables false
set_option linter.unusedSimpArgs false
def BuildP (ts : List S41) (w : World) (e : Ending) (w' : World) : Prop :=
  ∃ v, e = .returned (.tuple #[v, .int .i64 (buildF ts).2]) ∧ Kd.S k69 69 w' w.heap.size (fun _ => True) v (buildF ts).1 ∧ Below w.heap.size w w'
theorem Bd.new (T : Nat) (W : World) (base : Nat) (hb : base ≤ W.heap.size) :
    Bd T (((W.alloc (.cells #[.int .i64 0, .string ⟨#[]⟩, .string ⟨#[]⟩, .slice none 0 0, .int .i64 (-1)] 69)).alloc (.cells #[.int .i64 0] 3)).alloc (.cells #[.slice (some ⟨W.heap.size, 0, none⟩) 1 1, .slice (some ⟨W.heap.size + 1, 0, none⟩) 1 1] T)) base (W.heap.size + 2) (fun _ => True) [root] [0] := by
  have h1 : Kd.S k69 69 (W.alloc (.cells #[.int .i64 0, .string ⟨#[]⟩, .string ⟨#[]⟩, .slice none 0 0, .int .i64 (-1)] 69)) base (fun _ => True) (.slice (some ⟨W.heap.size, 0, none⟩) 1 1) [root] :=
    Kd.S_bare ⟨fun _ _ => trivial, OwnRow.lit W base (ps := [root]) (inner := [.int .i64 0, .string ⟨#[]⟩, .string ⟨#[]⟩, .slice none 0 0, .int .i64 (-1)]) ⟨rfl, fun j p hp => by
      have hj : j < [root].length := (List.getElem?_eq_some_iff.1 hp).1
      obtain rfl : j = 0 := by simp at hj; omega
      obtain rfl : root = p := by simpa using hp
      exact k69_mkM _ _ _ root (Kd.R_nil _ _ _ _ _)⟩ hb (by decide)⟩
  have h2 : Kd.R (Kd.int .i64) 3 ((W.alloc (.cells #[.int .i64 0, .string ⟨#[]⟩, .string ⟨#[]⟩, .slice none 0 0, .int .i64 (-1)] 69)).alloc (.cells #[.int .i64 0] 3)) base (fun _ => True) (.slice (some ⟨W.heap.size + 1, 0, none⟩) 1 1) [0] := by
    have := OwnRow.lit (R := (Kd.int .i64).M ((W.alloc (.cells #[.int .i64 0, .string ⟨#[]⟩, .string ⟨#[]⟩, .slice none 0 0, .int .i64 (-1)] 69)).alloc (.cells #[.int .i64 0] 3)) base (fun k => True ∧ some k ≠ (Value.slice (some ⟨W.heap.size + 1, 0, none⟩) 1 1).ownBlock)) (e := 3) (size := 1) (W.alloc (.cells #[.int .i64 0, .string ⟨#[]⟩, .string ⟨#[]⟩, .slice none 0 0, .int .i64 (-1)] 69)) base (ps := [0]) (inner := [.int .i64 0]) ⟨rfl, fun j p hp => by
      have hj : j < [(0 : Int)].length := (List.getElem?_eq_some_iff.1 hp).1
      obtain rfl : j = 0 := by simp at hj; omega
      obtain rfl : (0 : Int) = p := by simpa using hp
      rfl⟩ (by simp; omega) (by decide)
    rw [World.size_alloc] at this
    exact ⟨fun _ _ => trivial, this⟩
  refine ⟨by omega, _, _, ?_, Kd.S_alloc (Kd.S_alloc h1 _) _, Kd.R_alloc h2 _⟩
  have := heap_alloc_new ((W.alloc (.cells #[.int .i64 0, .string ⟨#[]⟩, .string ⟨#[]⟩, .slice none 0 0, .int .i64 (-1)] 69)).alloc (.cells #[.int .i64 0] 3)) (.cells #[.slice (some ⟨W.heap.size, 0, none⟩) 1 1, .slice (some ⟨W.heap.size + 1, 0, none⟩) 1 1] T)
  rwa [World.size_alloc, World.size_alloc] at this
def Step (f : FuncId) (args : Array Value) (W : World) (b : Nat) (w : World) (ns : List S69) (op : List Int) : Prop :=
  Calls Tryz.prog f args w fun e w' => e = .returned (.tuple #[]) ∧ Bd 132 w' W.heap.size b (fun _ => True) ns op ∧ Below W.heap.size W w'
theorem all_take_false {ts : List S41} {k : Nat} (h : k < ts.length) (hm : mayB ts[k] = false) : ts.all mayB = false := by
  rw [Bool.eq_false_iff]
  intro h2
  rw [List.all_eq_true] at h2
  rw [h2 _ (List.getElem_mem h)] at hm
  cases hm
theorem all_take_snoc {ts : List S41} {k : Nat} (h : k < ts.length) (h1 : (ts.take k).all mayB = true) (hm : mayB ts[k] = true) : (ts.take (k + 1)).all mayB = true := by
  rw [List.take_succ_eq_append_getElem h, List.all_append, h1]; simp [hm]
theorem may_attrs {t : S41} (h : mayB t = true) (h1 : t.f0 = 1) : t.f3.length ≤ 32 := by
  unfold mayB at h
  rw [if_pos h1] at h
  simp only [Bool.and_eq_true, attrsOk, decide_eq_true_eq] at h
  exact h.2.2
theorem tok_at {w : World} {A : Option Addr} {ts : List S41} (h : Kd.C k41 w A ts.length ts) (k : Nat) (hk : k < ts.length) :
    ∃ ad A3 c3, A = some ad ∧ w.cell? (ad.add (k * 5)) = some (.int .i64 ts[k].f0) ∧ w.cell? ⟨(ad.add (k * 5)).block, (ad.add (k * 5)).off + 1, none⟩ = some (.string ts[k].f1) ∧ w.cell? ⟨(ad.add (k * 5)).block, (ad.add (k * 5)).off + 2, none⟩ = some (.string ts[k].f2) ∧ w.cell? ⟨(ad.add (k * 5)).block, (ad.add (k * 5)).off + 3, none⟩ = some (.slice A3 ts[k].f3.length c3) ∧ w.cell? ⟨(ad.add (k * 5)).block, (ad.add (k * 5)).off + 4, none⟩ = some (.bool ts[k].f4) ∧ ts[k].f3.length ≤ c3 ∧ Kd.C k39 w A3 ts[k].f3.length ts[k].f3 ∧ (ad.add (k * 5)).block < w.heap.size := by
  obtain ⟨ad, A3, c3, e, g0, g1, g2, g3, g4, g5, g6⟩ := at_T41 h (k : Int) (by omega) (by omega)
  have hx : rd_T41 ts (k : Int) = ts[k] := by simp [rd_T41, List.getD_eq_getElem?_getD, List.getElem?_eq_getElem hk]
  rw [hx] at g0 g1 g2 g3 g4 g5 g6
  rw [Int.toNat_natCast] at g0 g1 g2 g3 g4
  exact ⟨ad, A3, c3, e, g0, g1, g2, g3, g4, g5, g6, World.block_lt_of_cell? _ _ g0⟩
set_option maxHeartbeats 6400000 in
set_option maxRecDepth 100000 in
theorem build_calls (ts : List S41) (A : Option Addr) (c : Nat) (w : World) (hC : Kd.C k41 w A ts.length ts) (hsz : toks ts ≤ 4611686018427387904) :
    Calls Tryz.prog 63 #[.slice A ts.length c] w (BuildP ts w) := by
  have HC := Aside0.mk hC
  have HL := Aside0.mk hC.2.1
  have HSZ := Aside0.mk hsz
  have hu := Tryz.underlying41
  clear hC hsz
  go_enter Tryz.func63, Tryz.ntmps63
  go_wp2
  go_loopw [10] (fun i wr => ∃ k : Nat, k ≤ ts.length ∧ i = .int .i64 k ∧ Aside0 ((ts.take k).all mayB = true) ∧ Aside0 (Below w.heap.size w wr))
    (fun i _ => ts.length - (RowKit.intOf i).toNat)
  case atStart => exact ⟨0, Nat.zero_le _, rfl, ⟨rfl⟩, ⟨Below.refl _ _⟩⟩
  case round =>
    obtain ⟨k, hk, rfl, HM, HB⟩ := hrel
    have hm := HL.out
    by_cases hlt : k < ts.length
    · obtain ⟨ad, A3, c3, e, g0, g1, g2, g3, g4, g5, g6, g7⟩ := tok_at HC.out k hlt
      cases e
      have HMy := Aside0.mk (may_calls ts[k].f0 ts[k].f1 ts[k].f2 ts[k].f3 ts[k].f4 (ad.add (k * 5)) A3 c3 wr (pw_cell_below HB.out g0) (pw_cell_below HB.out g1) (pw_cell_below HB.out g2) (pw_cell_below HB.out g3) (pw_cell_below HB.out g4) g5 (Kd.C_below g6 HB.out))
      have et : (⟨ts[k].f0, ts[k].f1, ts[k].f2, ts[k].f3, ts[k].f4⟩ : S41) = ts[k] := rfl
      rw [et] at HMy
      clear g0 g1 g2 g3 g4 g5 g6 g7 et
      by_cases hq : mayB ts[k] = true
      · rw [hq] at HMy
        have HM2 := Aside0.mk (all_take_snoc hlt HM.out hq)
        clear hq
        go_wp2_with (go_at_call 120; refine HMy.out.mono ?_; rintro e w2 ⟨rfl, hb2⟩)
        have HB2 := Aside0.mk (HB.out.trans (hb2.mono HB.out.size))
        clear hb2
        go_wp2
        go_roundw
        case rel => exact ⟨k + 1, by omega, by go_num, HM2, HB2⟩
        case measure => simp [RowKit.intOf]; omega
      · have hq : mayB ts[k] = false := by simpa using hq
        rw [hq] at HMy
        have HM2 := Aside0.mk (all_take_false hlt hq)
        clear hq
        go_wp2_with (go_at_call 120; refine HMy.out.mono ?_; rintro e w2 ⟨rfl, hb2⟩)
        have HB2 := Aside0.mk (HB.out.trans (hb2.mono HB.out.size))
        clear hb2
        go_wp2
        have hr : buildF ts = ([], 700) := by unfold buildF; rw [if_neg (by rw [HM2.out]; decide)]
        go_ret2
        exact ⟨.slice none 0 0, by rw [hr]; rfl, by rw [hr]; exact Kd.S_nil _ _ _ _ _, HB2.out⟩
    · have HA := Aside0.mk (show ts.all mayB = true by have := HM.out; rwa [List.take_of_length_le (by omega)] at this)
      have hbd := Bd.new 132 wr w.heap.size HB.out.size
      have HBD := Aside0.mk hbd
      clear hbd HM
      have HB0 := Aside0.mk HB.out.size
      have HBW := Aside0.mk ((((HB.out.alloc HB.out.size (.cells #[.int .i64 0, .string ⟨#[]⟩, .string ⟨#[]⟩, .slice none 0 0, .int .i64 (-1)] 69)).alloc (by rw [World.size_alloc]; have := HB.out.size; omega) (.cells #[.int .i64 0] 3)).alloc (by rw [World.size_alloc, World.size_alloc]; have := HB.out.size; omega) (.cells #[.slice (some ⟨wr.heap.size, 0, none⟩) 1 1, .slice (some ⟨wr.heap.size + 1, 0, none⟩) 1 1] 132)))
      obtain ⟨b, hb⟩ : ∃ b, wr.heap.size + 2 = b := ⟨_, rfl⟩
      rw [hb] at HBD
      have hres : ∃ R, runF ts [root] [0] = R := ⟨_, rfl⟩
      obtain ⟨R, hR⟩ := hres
      have HRes := Aside0.mk (show buildF ts = resF R by unfold buildF; rw [if_pos HA.out, hR])
      have HR0 := Aside0.mk hR
      clear hR HB
      go_wp2
      clear hb
      go_loopw [26] (fun i wx => ∃ (k : Nat) (ns : List S69) (op : List Int), k ≤ ts.length ∧ i = .int .i64 k ∧ Aside0 (runF (ts.drop k) ns op = R) ∧ Aside0 (Good ns op (toks (ts.take k))) ∧ Aside0 (Bd 132 wx w.heap.size b (fun _ => True) ns op) ∧ Aside0 (Below w.heap.size w wx))
        (fun i _ => ts.length - (RowKit.intOf i).toNat)
      case atStart => exact ⟨0, [root], [0], Nat.zero_le _, rfl, HR0, ⟨good_root⟩, HBD, HBW⟩
      case round =>
        clear HR0 HBD HBW HB0 hlt hk hm
        obtain ⟨k, ns, op, hk, rfl, HRun, HG, HBD, HB⟩ := hrel
        have hm := HL.out
        by_cases hlt : k < ts.length
        · obtain ⟨ad, A3, c3, e, g0, g1, g2, g3, g4, g5, g6, g7⟩ := tok_at HC.out k hlt
          cases e
          obtain ⟨t, ht⟩ : ∃ t, ts[k] = t := ⟨_, rfl⟩
          have htm : mayB t = true := by
            have := HA.out
            rw [List.all_eq_true] at this
            rw [← ht]; exact this _ (List.getElem_mem hlt)
          have hsize : toks (ts.take (k + 1)) = toks (ts.take k) + t.f2.size := by rw [toks_take ts k hlt, ht]
          have hsize2 := toks_le ts (k + 1)
          rw [ht] at g0 g1 g2 g3 g4 g5 g6
          obtain ⟨p, hp⟩ : ∃ p, ad.add (k * 5) = p := ⟨_, rfl⟩
          rw [hp] at g0 g1 g2 g3 g4 g7
          replace g0 := pw_cell_below HB.out g0
          replace g1 := pw_cell_below HB.out g1
          replace g2 := pw_cell_below HB.out g2
          replace g3 := pw_cell_below HB.out g3
          have hdrop : ts.drop k = t :: ts.drop (k + 1) := by rw [List.drop_eq_getElem_cons hlt, ht]
          have G := HG.out
          have hN := G.ns1
          have hO := G.op1
          have HT := Aside0.mk (fun (h : t.f0 = 0) => (show Step 121 #[.pointer (some ⟨b, 0, none⟩), .string t.f2] w b wr (stepF ns op t).1 (stepF ns op t).2 by
            unfold stepF Step; rw [if_pos h]
            exact text_calls w wr b ns op t.f2 HB.out HBD.out G.ns0 G.op0 (by omega) (by omega) (fun l hl => by have := getLast_mem_texts ns l hl; have := G.tx; have := HSZ.out; omega)))
          have HCm := Aside0.mk (fun (h0 : t.f0 ≠ 0) (h : t.f0 = 3) => (show Step 122 #[.pointer (some ⟨b, 0, none⟩), .agg #[.int .i64 3, .string ⟨#[]⟩, .string t.f2, .slice none 0 0, .int .i64 0]] w b wr (stepF ns op t).1 (stepF ns op t).2 by
            unfold stepF Step; rw [if_neg h0, if_pos h]
            exact node_calls w wr b (fun _ => False) ns op 3 0 ⟨#[]⟩ t.f2 (.slice none 0 0) [] HB.out (HBD.out.mono (fun _ _ h => h)) (Kd.R_nil _ _ _ _ _) G.op0 (by omega) (by omega)))
          have HSt := Aside0.mk (fun (h0 : t.f0 ≠ 0) (h3 : t.f0 ≠ 3) (h : t.f0 = 1) => (show Step 123 #[.pointer (some ⟨b, 0, none⟩), .pointer (some p)] w b wr (stepF ns op t).1 (stepF ns op t).2 by
            unfold stepF Step; rw [if_neg h0, if_neg h3, if_pos h]
            exact start_calls w wr b ns op t.f1 t.f3 p A3 c3 HB.out HBD.out G.op0 (by omega) (by omega) g1 g3 (Kd.C_below g6 HB.out) (by have := may_attrs htm h; omega) g7))
          have HEn := Aside0.mk (fun (h0 : t.f0 ≠ 0) (h3 : t.f0 ≠ 3) (h1 : t.f0 ≠ 1) => (show Step 124 #[.pointer (some ⟨b, 0, none⟩), .string t.f1] w b wr (stepF ns op t).1 (stepF ns op t).2 by
            unfold stepF Step; rw [if_neg h0, if_neg h3, if_neg h1]
            exact end_calls w wr b ns op t.f1 HB.out HBD.out G.op0 (by omega) G.ok))
          have HRun2 := Aside0.mk (show (if (stepF ns op t).1.length > 4096 then none else runF (ts.drop (k + 1)) (stepF ns op t).1 (stepF ns op t).2) = R by have := HRun.out; rw [hdrop] at this; exact this)
          have HG2 := Aside0.mk (fun h => (hsize ▸ good_step G t h : Good (stepF ns op t).1 (stepF ns op t).2 (toks (ts.take (k + 1)))))
          obtain ⟨ns', hns'⟩ : ∃ x, (stepF ns op t).1 = x := ⟨_, rfl⟩
          obtain ⟨op', hop'⟩ : ∃ x, (stepF ns op t).2 = x := ⟨_, rfl⟩
          rw [hns', hop'] at HT HCm HSt HEn HRun2 HG2
          clear ht htm hsize hsize2 hdrop G hN hO HRun HG HBD hns' hop' g3 g4 g5 g6 g7
          have HKp := Aside0.mk (show ∀ w4 : World, Bd 132 w4 w.heap.size b (fun _ => True) ns' op' → ∃ A c, w4.cell? ⟨b, 0, none⟩ = some (.slice A ns'.length c) from fun w4 h => by
            obtain ⟨_, v0, v1, h1, h2, _⟩ := h
            obtain ⟨A, c, rfl⟩ := Kd.S_slice h2
            exact ⟨A, c, (blk_cell h1 0).trans rfl⟩)
          by_cases hfull : ns'.length ≤ 4096
          · have HF := Aside0.mk hfull
            have hf : decide (4096 < (ns'.length : Int)) = false := decide_eq_false (by omega)
            have HRun3 := Aside0.mk (show runF (ts.drop (k + 1)) ns' op' = R by have := HRun2.out; rwa [if_neg (by omega)] at this)
            clear hfull HRun2
            by_cases k0 : t.f0 = 0
            · rw [k0] at g0
              have HS := Aside0.mk (HT.out k0)
              clear k0 HT HCm HSt HEn
              unfold Step at HS
              go_wp2_with (go_at_call 121; refine HS.out.mono ?_; rintro e w4 ⟨rfl, hbd, hb4⟩; have HBD := Aside0.mk hbd; have HB4 := Aside0.mk hb4; obtain ⟨A5, c5, y5⟩ := HKp.out w4 hbd; clear hbd hb4)
              go_wp2
              go_roundw
              case rel => exact ⟨k + 1, ns', op', by omega, by go_num, HRun3, ⟨HG2.out HF.out⟩, HBD, HB4⟩
              case measure => simp [RowKit.intOf]; omega
            by_cases k3 : t.f0 = 3
            · rw [k3] at g0
              have HS := Aside0.mk (HCm.out k0 k3)
              clear k0 k3 HT HCm HSt HEn
              unfold Step at HS
              go_wp2_with (go_at_call 122; refine HS.out.mono ?_; rintro e w4 ⟨rfl, hbd, hb4⟩; have HBD := Aside0.mk hbd; have HB4 := Aside0.mk hb4; obtain ⟨A5, c5, y5⟩ := HKp.out w4 hbd; clear hbd hb4)
              go_wp2
              go_roundw
              case rel => exact ⟨k + 1, ns', op', by omega, by go_num, HRun3, ⟨HG2.out HF.out⟩, HBD, HB4⟩
              case measure => simp [RowKit.intOf]; omega
            by_cases k1 : t.f0 = 1
            · rw [k1] at g0
              have HS := Aside0.mk (HSt.out k0 k3 k1)
              clear k0 k3 k1 HT HCm HSt HEn
              unfold Step at HS
              go_wp2_with (go_at_call 123; refine HS.out.mono ?_; rintro e w4 ⟨rfl, hbd, hb4⟩; have HBD := Aside0.mk hbd; have HB4 := Aside0.mk hb4; obtain ⟨A5, c5, y5⟩ := HKp.out w4 hbd; clear hbd hb4)
              go_wp2
              go_roundw
              case rel => exact ⟨k + 1, ns', op', by omega, by go_num, HRun3, ⟨HG2.out HF.out⟩, HBD, HB4⟩
              case measure => simp [RowKit.intOf]; omega
            have HS := Aside0.mk (HEn.out k0 k3 k1)
            have b0 : (t.f0 == 0) = false := by simpa using k0
            have b1 : (t.f0 == 1) = false := by simpa using k1
            have b3 : (t.f0 == 3) = false := by simpa using k3
            clear k0 k1 k3 HT HCm HSt HEn
            unfold Step at HS
            go_wp2_with (go_at_call 124; refine HS.out.mono ?_; rintro e w4 ⟨rfl, hbd, hb4⟩; have HBD := Aside0.mk hbd; have HB4 := Aside0.mk hb4; obtain ⟨A5, c5, y5⟩ := HKp.out w4 hbd; clear hbd hb4)
            go_wp2
            go_roundw
            case rel => exact ⟨k + 1, ns', op', by omega, by go_num, HRun3, ⟨HG2.out HF.out⟩, HBD, HB4⟩
            case measure => simp [RowKit.intOf]; omega
          · have hf : (4096 : Int) < (ns'.length : Int) := by omega
            have HRun3 := Aside0.mk (show none = R by have := HRun2.out; rwa [if_pos (by omega)] at this)
            clear hfull HRun2
            by_cases k0 : t.f0 = 0
            · rw [k0] at g0
              have HS := Aside0.mk (HT.out k0)
              clear k0 HT HCm HSt HEn
              unfold Step at HS
              go_wp2_with (go_at_call 121; refine HS.out.mono ?_; rintro e w4 ⟨rfl, hbd, hb4⟩; have HBD := Aside0.mk hbd; have HB4 := Aside0.mk hb4; obtain ⟨A5, c5, y5⟩ := HKp.out w4 hbd; clear hbd hb4)
              go_wp2
              have hr : buildF ts = ([], 701) := by rw [HRes.out, ← HRun3.out]; rfl
              go_ret2
              exact ⟨.slice none 0 0, by rw [hr]; rfl, by rw [hr]; exact Kd.S_nil _ _ _ _ _, HB4.out⟩
            by_cases k3 : t.f0 = 3
            · rw [k3] at g0
              have HS := Aside0.mk (HCm.out k0 k3)
              clear k0 k3 HT HCm HSt HEn
              unfold Step at HS
              go_wp2_with (go_at_call 122; refine HS.out.mono ?_; rintro e w4 ⟨rfl, hbd, hb4⟩; have HBD := Aside0.mk hbd; have HB4 := Aside0.mk hb4; obtain ⟨A5, c5, y5⟩ := HKp.out w4 hbd; clear hbd hb4)
              go_wp2
              have hr : buildF ts = ([], 701) := by rw [HRes.out, ← HRun3.out]; rfl
              go_ret2
              exact ⟨.slice none 0 0, by rw [hr]; rfl, by rw [hr]; exact Kd.S_nil _ _ _ _ _, HB4.out⟩
            by_cases k1 : t.f0 = 1
            · rw [k1] at g0
              have HS := Aside0.mk (HSt.out k0 k3 k1)
              clear k0 k3 k1 HT HCm HSt HEn
              unfold Step at HS
              go_wp2_with (go_at_call 123; refine HS.out.mono ?_; rintro e w4 ⟨rfl, hbd, hb4⟩; have HBD := Aside0.mk hbd; have HB4 := Aside0.mk hb4; obtain ⟨A5, c5, y5⟩ := HKp.out w4 hbd; clear hbd hb4)
              go_wp2
              have hr : buildF ts = ([], 701) := by rw [HRes.out, ← HRun3.out]; rfl
              go_ret2
              exact ⟨.slice none 0 0, by rw [hr]; rfl, by rw [hr]; exact Kd.S_nil _ _ _ _ _, HB4.out⟩
            have HS := Aside0.mk (HEn.out k0 k3 k1)
            have b0 : (t.f0 == 0) = false := by simpa using k0
            have b1 : (t.f0 == 1) = false := by simpa using k1
            have b3 : (t.f0 == 3) = false := by simpa using k3
            clear k0 k1 k3 HT HCm HSt HEn
            unfold Step at HS
            go_wp2_with (go_at_call 124; refine HS.out.mono ?_; rintro e w4 ⟨rfl, hbd, hb4⟩; have HBD := Aside0.mk hbd; have HB4 := Aside0.mk hb4; obtain ⟨A5, c5, y5⟩ := HKp.out w4 hbd; clear hbd hb4)
            go_wp2
            have hr : buildF ts = ([], 701) := by rw [HRes.out, ← HRun3.out]; rfl
            go_ret2
            exact ⟨.slice none 0 0, by rw [hr]; rfl, by rw [hr]; exact Kd.S_nil _ _ _ _ _, HB4.out⟩
        · obtain ⟨hb0, v0, v1, hb1, hs, hr⟩ := HBD.out
          obtain ⟨A5, c5, rfl⟩ := Kd.S_slice hs
          have y5 : wr.cell? ⟨b, 0, none⟩ = some (.slice A5 ns.length c5) := (blk_cell hb1 0).trans rfl
          have HS := Aside0.mk hs
          have hr : buildF ts = (ns, 0) := by
            have h := HRun.out
            rw [List.drop_eq_nil_of_le (by omega)] at h
            rw [HRes.out, ← h]; rfl
          have HRR := Aside0.mk hr
          clear hb0 hb1 hs hr HRun
          go_wp2
          go_ret2
          exact ⟨.slice A5 ns.length c5, by rw [HRR.out]; rfl, by rw [HRR.out]; exact HS.out, HB.out⟩
end Go.Proofs.YtfmcdlbbbmeolaaGreatDoor.Tr
end
section
namespace Go.Proofs.YtfmcdlbbbmeolaaGreatDoor.Tr
end Go.Proofs.YtfmcdlbbbmeolaaGreatDoor.Tr
end
section
namespace Go.Proofs.YtfmcdlbbbmeolaaGreatDoor.Tr
open Go.RowKit Go.Proofs.YtfmcdlbbbmeolaaGreatDoor.XK Go.Proofs.YtfmcdlbbbmeolaaGreatDoor.Base Go.Proofs.YtfmcdlbbbmeolaaGreatDoorW.PrintWords Go.Proofs.YtfmcdlbbbmeolaaGreatDoorW.PrintLast Go.Proofs.YtfmcdlbbbmeolaaGreatDoorW.PrintMore
set_option linter.unusedVariables false
set_option linter.unusedSimpArgs false
def nd (ns : List S69) (j : Nat) : S69 := ns.getD j z69
theorem nd_left (ns : List S69) (x : S69) (j : Nat) (h : j < ns.length) : nd (ns ++ [x]) j = nd ns j := by
  unfold nd; rw [List.getD_eq_getElem?_getD, List.getD_eq_getElem?_getD, List.getElem?_append_left h]
theorem nd_last (ns : List S69) (x : S69) : nd (ns ++ [x]) ns.length = x := by
  unfold nd; rw [List.getD_eq_getElem?_getD, List.getElem?_append_right (Nat.le_refl _)]; simp
structure Sh (ns : List S69) (op : List Int) (D : Nat → Nat) : Prop where
  ne : 1 ≤ ns.length
  r0 : (nd ns 0).f0 = 0
  r1 : (nd ns 0).f4 = -1
  d0 : D 0 = 0
  node : ∀ i, 1 ≤ i → i < ns.length → (nd ns i).f0 ≠ 0 ∧ ∃ p : Nat, (nd ns i).f4 = (p : Int) ∧ p < i ∧ ((nd ns p).f0 = 0 ∨ (nd ns p).f0 = 1) ∧ D i = D p + 1 ∧ D i ≤ 33 ∧
    ¬ ((nd ns i).f0 = 2 ∧ (nd ns (i - 1)).f0 = 2 ∧ (nd ns (i - 1)).f4 = (p : Int))
  opn : ∀ (j : Nat) (x : Int), op[j]? = some x → ∃ q : Nat, x = (q : Int) ∧ q < ns.length ∧ D q ≤ j ∧ ((nd ns q).f0 = 0 ∨ (nd ns q).f0 = 1)
  op0 : op ≠ []
  op1 : op.length ≤ 33
theorem sh_root : Sh [root] [0] (fun _ => 0) := ⟨by simp, rfl, rfl, rfl, fun i h1 h2 => by simp at h2; omega, fun j x hx => by
  have hj : j < 1 := (List.getElem?_eq_some_iff.1 hx).1
  obtain rfl : j = 0 := by omega
  obtain rfl : (0 : Int) = x := by simpa using hx
  exact ⟨0, rfl, by simp, by simp, .inl rfl⟩, by simp, by simp⟩
section
variable {ns : List S69} {op : List Int} {D : Nat → Nat}
theorem Sh.last (h : Sh ns op D) : ∃ q : Nat, lastOf op = (q : Int) ∧ q < ns.length ∧ D q ≤ op.length - 1 ∧ ((nd ns q).f0 = 0 ∨ (nd ns q).f0 = 1) := by
  have hl := List.length_pos_iff.2 h.op0
  have hg : op[op.length - 1]? = some op[op.length - 1] := List.getElem?_eq_getElem (by omega)
  obtain ⟨q, h1, h2⟩ := h.opn _ _ hg
  exact ⟨q, by unfold lastOf; rw [List.getLast?_eq_getElem?, hg]; exact h1, h2⟩
theorem Sh.push (h : Sh ns op D) (x : S69) (h4 : x.f4 = lastOf op) (h0 : x.f0 ≠ 0) (ht : ¬ (x.f0 = 2 ∧ (nd ns (ns.length - 1)).f0 = 2 ∧ (nd ns (ns.length - 1)).f4 = lastOf op)) :
    ∃ D', Sh (ns ++ [x]) op D' ∧ D' ns.length ≤ op.length := by
  obtain ⟨q, hq, hlt, hd, hk⟩ := h.last
  have hl := List.length_pos_iff.2 h.op0
  have ho := h.op1
  have hn := h.ne
  refine ⟨fun j => if j = ns.length then D q + 1 else D j, ⟨by simp, by rw [nd_left _ _ _ (by omega)]; exact h.r0, by rw [nd_left _ _ _ (by omega)]; exact h.r1, by rw [if_neg (by omega)]; exact h.d0, ?_, ?_, h.op0, h.op1⟩, by show (if ns.length = ns.length then D q + 1 else D ns.length) ≤ op.length; rw [if_pos rfl]; omega⟩
  · intro i h1 h2
    rw [List.length_append, List.length_singleton] at h2
    by_cases he : i = ns.length
    · subst he
      rw [nd_last, nd_left _ _ _ (by omega), if_pos rfl]
      refine ⟨h0, q, h4.trans hq, hlt, by rw [nd_left _ _ _ hlt]; exact hk, by rw [if_neg (by omega)], by omega, ?_⟩
      rw [← hq]; exact ht
    · obtain ⟨a1, p, a2, a3, a4, a5, a6, a7⟩ := h.node i h1 (by omega)
      rw [nd_left _ _ _ (by omega), nd_left _ _ _ (by omega), if_neg he]
      exact ⟨a1, p, a2, a3, by rw [nd_left _ _ _ (by omega)]; exact a4, by rw [if_neg (by omega)]; exact a5, a6, a7⟩
  · intro j y hy
    obtain ⟨q', b1, b2, b3, b4⟩ := h.opn j y hy
    exact ⟨q', b1, by simp; omega, by rw [if_neg (by omega)]; exact b3, by rw [nd_left _ _ _ b2]; exact b4⟩
theorem Sh.opening (h : Sh ns op D) (q : Nat) (h1 : q < ns.length) (h2 : D q ≤ op.length) (h3 : (nd ns q).f0 = 0 ∨ (nd ns q).f0 = 1) (h4 : op.length ≤ 32) : Sh ns (op ++ [(q : Int)]) D := by
  refine ⟨h.ne, h.r0, h.r1, h.d0, h.node, ?_, by simp, by simp; omega⟩
  intro j y hy
  by_cases hj : j < op.length
  · rw [List.getElem?_append_left hj] at hy; exact h.opn j y hy
  · have hj2 : j < (op ++ [(q : Int)]).length := (List.getElem?_eq_some_iff.1 hy).1
    rw [List.length_append, List.length_singleton] at hj2
    obtain rfl : j = op.length := by omega
    rw [List.getElem?_append_right (Nat.le_refl _)] at hy
    obtain rfl : (q : Int) = y := by simpa using hy
    exact ⟨q, rfl, h1, h2, h3⟩
theorem Sh.takes (h : Sh ns op D) (n : Nat) (hn : 1 ≤ n) : Sh ns (op.take n) D := by
  have hl := List.length_pos_iff.2 h.op0
  refine ⟨h.ne, h.r0, h.r1, h.d0, h.node, ?_, fun e => ?_, by have := h.op1; rw [List.length_take]; omega⟩
  · intro j y hy
    rw [List.getElem?_take] at hy
    split at hy
    · exact h.opn j y hy
    · cases hy
  · have := congrArg List.length e
    rw [List.length_take, List.length_nil] at this; omega
theorem Sh.same (h : Sh ns op D) {ns' : List S69} (hl : ns'.length = ns.length) (h0 : ∀ j, (nd ns' j).f0 = (nd ns j).f0) (h4 : ∀ j, (nd ns' j).f4 = (nd ns j).f4) : Sh ns' op D := by
  refine ⟨by rw [hl]; exact h.ne, by rw [h0]; exact h.r0, by rw [h4]; exact h.r1, h.d0, ?_, ?_, h.op0, h.op1⟩
  · intro i h1 h2
    rw [hl] at h2
    obtain ⟨a1, p, a2, a3, a4, a5⟩ := h.node i h1 h2
    rw [h0, h0, h4, h4]
    exact ⟨a1, p, a2, a3, by rw [h0]; exact a4, a5⟩
  · intro j y hy
    obtain ⟨q', b1, b2, b3, b4⟩ := h.opn j y hy
    exact ⟨q', b1, by rw [hl]; exact b2, b3, by rw [h0]; exact b4⟩
end
theorem endAt_take (ns : List S69) (op : List Int) (nm : ByteArray) : ∀ i, endAt ns op nm i = op ∨ ∃ n, 1 ≤ n ∧ endAt ns op nm i = op.take n := by
  intro i
  induction i with
  | zero => exact .inl rfl
  | succ i ih =>
    rw [endAt]
    split
    · exact .inr ⟨i + 1, by omega, rfl⟩
    · exact ih
theorem last_set (ns : List S69) (l y : S69) (h : ns.getLast? = some l) : ns = ns.dropLast ++ [l] ∧ ns.set (ns.length - 1) y = ns.dropLast ++ [y] := by
  have hne : ns ≠ [] := by rintro rfl; simp at h
  have e : ns.dropLast ++ [l] = ns := by
    have h2 := List.dropLast_concat_getLast hne
    rw [List.getLast?_eq_some_getLast hne] at h
    rw [← Option.some.inj h]; exact h2
  refine ⟨e.symm, ?_⟩
  have hl : ns.length - 1 = ns.dropLast.length := by rw [List.length_dropLast]
  rw [hl]
  conv => lhs; rw [← e]
  rw [List.set_append_right _ _ (by rw [e]; exact Nat.le_refl _)]
  simp [e]
def txN (ns : List S69) : List UInt8 := ns.flatMap fun x => if x.f0 = 2 then x.f2.data.toList else []
def txT (ts : List S41) : List UInt8 := ts.flatMap fun t => if t.f0 = 0 then t.f2.data.toList else []
def elN (ns : List S69) : Nat := ns.countP fun x => decide (x.f0 = 1)
def elT (ts : List S41) : Nat := ts.countP fun t => decide (t.f0 = 1)
theorem txN_snoc (ns : List S69) (x : S69) : txN (ns ++ [x]) = txN ns ++ (if x.f0 = 2 then x.f2.data.toList else []) := by unfold txN; rw [List.flatMap_append]; simp
theorem elN_snoc (ns : List S69) (x : S69) : elN (ns ++ [x]) = elN ns + (if x.f0 = 1 then 1 else 0) := by unfold elN; rw [List.countP_append, List.countP_singleton]; simp
theorem textF_shape {ns : List S69} {op : List Int} {D : Nat → Nat} (h : Sh ns op D) (s : ByteArray) :
    (∃ D', Sh (textF ns op s) op D') ∧ txN (textF ns op s) = txN ns ++ s.data.toList ∧ elN (textF ns op s) = elN ns := by
  have hne : ns ≠ [] := fun e => by have := h.ne; rw [e] at this; simp at this
  obtain ⟨l, hl⟩ : ∃ l, ns.getLast? = some l := ⟨_, List.getLast?_eq_some_getLast hne⟩
  have hnd : nd ns (ns.length - 1) = l := by unfold nd; rw [List.getD_eq_getElem?_getD, ← List.getLast?_eq_getElem?, hl]; rfl
  unfold textF
  rw [hl]
  simp only
  by_cases c1 : l.f0 = 2 ∧ l.f4 = lastOf op
  · rw [if_pos c1]
    obtain ⟨e1, e2⟩ := last_set ns l ⟨l.f0, l.f1, l.f2 ++ s, l.f3, l.f4⟩ hl
    have hlen : ns.length = ns.dropLast.length + 1 := by have := congrArg List.length e1; rwa [List.length_append, List.length_singleton] at this
    refine ⟨⟨D, h.same (by simp) ?_ ?_⟩, ?_, ?_⟩
    · intro j
      rw [e2]; conv => rhs; rw [e1]
      rcases Nat.lt_trichotomy j ns.dropLast.length with hj | hj | hj
      · rw [nd_left _ _ _ hj, nd_left _ _ _ hj]
      · subst hj; rw [nd_last, nd_last]
      · unfold nd; rw [List.getD_eq_getElem?_getD, List.getD_eq_getElem?_getD, List.getElem?_eq_none (by simp; omega), List.getElem?_eq_none (by simp; omega)]
    · intro j
      rw [e2]; conv => rhs; rw [e1]
      rcases Nat.lt_trichotomy j ns.dropLast.length with hj | hj | hj
      · rw [nd_left _ _ _ hj, nd_left _ _ _ hj]
      · subst hj; rw [nd_last, nd_last]
      · unfold nd; rw [List.getD_eq_getElem?_getD, List.getD_eq_getElem?_getD, List.getElem?_eq_none (by simp; omega), List.getElem?_eq_none (by simp; omega)]
    · rw [e2, txN_snoc]; conv => rhs; rw [e1, txN_snoc]
      rw [if_pos c1.1, if_pos c1.1, data_append, List.append_assoc]
    · rw [e2, elN_snoc]; conv => rhs; rw [e1, elN_snoc]
  · rw [if_neg c1]
    by_cases c2 : s.toList = []
    · rw [if_pos c2]
      rw [list_eq] at c2
      exact ⟨⟨D, h⟩, by rw [c2, List.append_nil], rfl⟩
    · rw [if_neg c2]
      obtain ⟨D', h2, _⟩ := h.push ⟨2, ⟨#[]⟩, s, [], lastOf op⟩ rfl (by simp) (by rw [hnd]; exact fun hh => c1 hh.2)
      exact ⟨⟨D', h2⟩, by rw [txN_snoc]; rfl, by rw [elN_snoc]; rfl⟩
theorem stepF_shape {ns : List S69} {op : List Int} {D : Nat → Nat} (h : Sh ns op D) (t : S41) :
    (∃ D', Sh (stepF ns op t).1 (stepF ns op t).2 D') ∧ txN (stepF ns op t).1 = txN ns ++ (if t.f0 = 0 then t.f2.data.toList else []) ∧ elN (stepF ns op t).1 = elN ns + (if t.f0 = 1 then 1 else 0) := by
  unfold stepF
  by_cases k0 : t.f0 = 0
  · rw [if_pos k0, if_pos k0, if_neg (by omega)]
    exact textF_shape h t.f2
  · rw [if_neg k0, if_neg k0]
    by_cases k3 : t.f0 = 3
    · rw [if_pos k3, if_neg (by omega)]
      obtain ⟨D', h2, _⟩ := h.push ⟨3, ⟨#[]⟩, t.f2, [], lastOf op⟩ rfl (by simp) (by simp)
      exact ⟨⟨D', h2⟩, by rw [txN_snoc]; rfl, by rw [elN_snoc]; rfl⟩
    · rw [if_neg k3]
      by_cases k1 : t.f0 = 1
      · rw [if_pos k1, if_pos k1]
        obtain ⟨D', h2, h3⟩ := h.push ⟨1, t.f1, ⟨#[]⟩, t.f3, lastOf op⟩ rfl (by simp) (by simp)
        refine ⟨⟨D', ?_⟩, by rw [txN_snoc]; rfl, by rw [elN_snoc]; rfl⟩
        show Sh (ns ++ [⟨1, t.f1, ⟨#[]⟩, t.f3, lastOf op⟩]) (startOp ns op t.f1) D'
        unfold startOp
        split
        · rename_i c
          exact h2.opening ns.length (by simp) h3 (by rw [nd_last]; exact .inr rfl) c.2
        · exact h2
      · rw [if_neg k1, if_neg k1]
        refine ⟨⟨D, ?_⟩, by simp, by simp⟩
        show Sh ns (endAt ns op t.f1 (op.length - 1)) D
        rcases endAt_take ns op t.f1 (op.length - 1) with e | ⟨n, hn, e⟩
        · rw [e]; exact h
        · rw [e]; exact h.takes n hn
theorem runF_shape (ts : List S41) : ∀ (ns : List S69) (op : List Int) (D : Nat → Nat) (r : List S69), Sh ns op D → ns.length ≤ 4096 → runF ts ns op = some r →
    (∃ op' D', Sh r op' D') ∧ r.length ≤ 4096 ∧ txN r = txN ns ++ txT ts ∧ elN r = elN ns + elT ts := by
  induction ts with
  | nil =>
    intro ns op D r h hl hr
    obtain rfl := Option.some.inj hr
    exact ⟨⟨op, D, h⟩, hl, by simp [txT], by simp [elT]⟩
  | cons t ts ih =>
    intro ns op D r h hl hr
    rw [runF] at hr
    split at hr
    · cases hr
    · rename_i c
      obtain ⟨⟨D', h1⟩, h2, h3⟩ := stepF_shape h t
      obtain ⟨a1, a2, a3, a4⟩ := ih _ _ D' r h1 (by omega) hr
      refine ⟨a1, a2, ?_, ?_⟩
      · rw [a3, h2, List.append_assoc]; rfl
      · rw [a4, h3]; unfold elT; rw [List.countP_cons]; simp only [decide_eq_true_eq]; omega
end Go.Proofs.YtfmcdlbbbmeolaaGreatDoor.Tr
end
