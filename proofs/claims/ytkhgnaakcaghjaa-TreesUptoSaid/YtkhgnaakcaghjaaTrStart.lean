/- tree.builder's start: walked (slices.Clone, elem.Kind). -/
import Derived.Test.YtkhgnaakcaghjaaTrText
import Derived.WalkSpells
import Derived.Lib.SliceRun
namespace Go.Proofs.Ytkhgnaakcaghjaa.Tr
open Go.RowKit Go.Proofs.Ytkhgnaakcaghjaa.XA Go.Proofs.YtkhgnaakcaghjaaW.PrintWords Go.Proofs.YtkhgnaakcaghjaaW.PrintLast Go.Proofs.YtkhgnaakcaghjaaW.PrintMore
attribute [local go_sem ↓] Go.wp_at_zero Go.wp_at_succ
set_option linter.unusedVariables false
set_option linter.unusedSimpArgs false

def CloneP (xs : List S48) (w : World) (e : Ending) (w' : World) : Prop := ∃ v, e = .returned v ∧ Kd.R k48 48 w' w.heap.size (fun _ => True) v xs ∧ Below w.heap.size w w'
set_option maxHeartbeats 1600000 in
theorem clone_calls (xs : List S48) (A : Option Addr) (c : Nat) (w : World) (hx : Kd.C k48 w A xs.length xs) (hl : xs.length ≤ 4398046511103) :
    Calls Try.prog 30 #[.slice A xs.length c] w (CloneP xs w) := by
  have hnil := fun W : World => Lib.run_eql_slice_nil (P := Try.prog) W 36 48 A xs.length c 0 0 Try.underlying36
  have HX := Aside0.mk hx
  have HL := Aside0.mk hl
  have HO := Aside0.mk (show Kd.R k48 48 (w.alloc (.cells #[] 48)) w.heap.size (fun _ => True) (.slice (some ⟨w.heap.size, 0, none⟩) 0 0) [] from ⟨fun _ _ => trivial, OwnRow.lit w w.heap.size (Reps.none _ _) (Nat.le_refl _) (by decide)⟩)
  clear hx hl
  rcases A with _ | ad
  · have h0 : xs = [] := by
      rcases List.eq_nil_or_concat xs with h | ⟨l, x, rfl⟩
      · exact h
      · obtain ⟨ad, h, _⟩ := HX.out.2.2 (by simp)
        cases h
    subst h0
    simp only [Option.isNone_none, List.length_nil] at hnil
    go_enter Try.func30, Try.ntmps30
    go_wp2
    go_ret
    exact ⟨_, rfl, Kd.R_nil _ _ _ _ _, Below.refl _ _⟩
  · simp only [Option.isNone_some] at hnil
    go_enter Try.func30, Try.ntmps30
    go_wp2_with (at_builtin; refine Kd.R_append_rows k48 (w0 := w) w.heap.size rfl (.tmp 5) (.tmp 6) 36 48 (.agg #[(.string ⟨#[]⟩), (.string ⟨#[]⟩)]) 32 rfl Try.underlying36 info48 rfl (by decide) (by decide) (.slice (some ⟨w.heap.size, 0, none⟩) 0 0) [] xs (some ad) xs.length c (fun _ => True) (fun _ => False) rfl rfl HO.out (Kd.C_alloc HX.out _) (fun _ _ h => h) (fun _ h => h.elim) (fun _ _ => trivial) ((Below.refl _ _).alloc (Nat.le_refl _) _) ((Below.refl w.heap.size w).alloc (Nat.le_refl _) _).size (by have := HL.out; simp only [List.length_nil]; omega) ?_; intro v1 w1 ho hb hg hat; rw [List.nil_append] at ho)
    go_ret
    exact ⟨_, rfl, ho, hb⟩

theorem ex_ite {α : Type} {c : Prop} [Decidable c] {a b : Option α} (h1 : ∃ v, a = some v) (h2 : ∃ v, b = some v) : ∃ v, (if c then a else b) = some v := by
  by_cases h : c
  · rw [if_pos h]; exact h1
  · rw [if_neg h]; exact h2
theorem k1_eq : ∀ (k : Nat) (s : ByteArray) (b : Bool), elem_Kind.j1 k s b = stoleref1_Elem.j1 k s b := by
  intro k s b; cases k <;> rfl
theorem k0_eq : ∀ (k : Nat) (s : ByteArray) (b : Bool), elem_Kind.j0 k s b = stoleref1_Elem.j0 k s b := by
  intro k s b
  cases k with
  | zero => rfl
  | succ k => simp only [elem_Kind.j0, stoleref1_Elem.j0, k1_eq]
theorem kind_eq (k : Nat) (s : ByteArray) : elem_Kind.f k s = stoleref1_Elem.f k s := by
  unfold elem_Kind.f stoleref1_Elem.f
  simp only [k0_eq]
theorem kind_some (s : ByteArray) : ∃ v, elem_Kind.f 3 s = some v := by
  unfold elem_Kind.f
  simp only [elem_Kind.j0, elem_Kind.j1]
  repeat' first | exact ⟨_, rfl⟩ | refine ex_ite ?_ ?_
/-- What an element is. -/
def kindOf (s : ByteArray) : Int := (elem_Kind.f 3 s).getD 0
theorem kind_def (s : ByteArray) : elem_Kind.f 3 s = some (kindOf s) := by
  obtain ⟨v, hv⟩ := kind_some s
  unfold kindOf; rw [hv]; rfl
theorem kind_calls (s : ByteArray) (w : World) : Calls Try.prog 31 #[.string s] w fun e w' => e = .returned (.int .i64 (kindOf s)) ∧ Drawn0 w w' := elem_Kind.calls 3 s _ w (kind_def s)
theorem elem_calls (s : ByteArray) (w : World) : Calls Try.prog 33 #[.string s] w fun e w' => e = .returned (.int .i64 (kindOf s)) ∧ Drawn0 w w' := stoleref1_Elem.calls 3 s _ w ((kind_eq 3 s).symm.trans (kind_def s))

theorem Bd.old {T : Nat} {w w1 : World} {base b : Nat} {ok : Nat → Prop} {ns : List S38} {op : List Int} (h : Bd T w base b ok ns op) (hb : Below w.heap.size w w1) : Bd T w1 base b (fun k => ok k ∧ k < w.heap.size) ns op := by
  obtain ⟨h0, v0, v1, h1, h2, h3⟩ := h
  exact ⟨h0, v0, v1, (hb.block b (blk_lt h1)).trans h1, Kd.S_old h2 hb, Kd.R_below h3 hb⟩
/-- A token's attributes cloned into new memory, its node made. -/
theorem R_fresh {w w1 : World} {base : Nat} {v : Value} {xs : List S48} (h : Kd.R k48 48 w1 w.heap.size (fun _ => True) v xs) (hb : base ≤ w.heap.size) : Kd.R k48 48 w1 base (fun k => w.heap.size ≤ k) v xs :=
  Kd.R_lower (Kd.R_mono (Kd.R_bound h) (fun k hk => hk.2.1)) hb

def startOp (ns : List S38) (op : List Int) (nm : ByteArray) : List Int := if kindOf nm ≠ 1 ∧ op.length ≤ 32 then op ++ [(ns.length : Int)] else op

set_option maxHeartbeats 3200000 in
set_option maxRecDepth 100000 in
theorem start_calls (w0 w : World) (b : Nat) (ns : List S38) (op : List Int) (nm : ByteArray) (ats : List S48) (p : Addr) (A : Option Addr) (c : Nat)
    (hB : Below w0.heap.size w0 w) (hI : Bd 55 w w0.heap.size b (fun _ => True) ns op) (hop : op ≠ []) (hlen : op.length ≤ 4611686018) (hns : ns.length ≤ 4611686017)
    (h1 : w.cell? ⟨p.block, p.off + 1, none⟩ = some (.string nm)) (h3 : w.cell? ⟨p.block, p.off + 3, none⟩ = some (.slice A ats.length c)) (hC : Kd.C k48 w A ats.length ats) (hl : ats.length ≤ 4398046511103) (hpb : p.block < w0.heap.size) :
    Calls Try.prog 22 #[.pointer (some ⟨b, 0, none⟩), .pointer (some p)] w fun e w' => e = .returned (.tuple #[]) ∧
      Bd 55 w' w0.heap.size b (fun _ => True) (ns ++ [⟨1, nm, ⟨#[]⟩, ats, lastOf op⟩]) (startOp ns op nm) ∧ Below w0.heap.size w0 w' := by
  have HCl := Aside0.mk (clone_calls ats A c w.drew (Kd.C_drew hC) hl)
  have hno0 := fun (w3 : World) (va : Value) (hb3 : Below w.drew.heap.size w.drew w3) (hva : Kd.R k48 48 w3 w.drew.heap.size (fun _ => True) va ats) =>
    node_calls w0 w3 b (fun k => w.drew.heap.size ≤ k) ns op 1 0 nm ⟨#[]⟩ va ats (hB.drew.trans (hb3.mono hB.size)) (((hI.drewN 1).old hb3).mono (fun k hk => Nat.not_le.2 hk.2)) (R_fresh hva hB.size) hop (by omega) (by omega)
  obtain ⟨ns1, hn1⟩ : ∃ ns1 : List S38, ns ++ [⟨1, nm, ⟨#[]⟩, ats, lastOf op⟩] = ns1 := ⟨_, rfl⟩
  have hn1l : ns1.length = ns.length + 1 := by rw [← hn1]; simp
  have HN1L := Aside0.mk hn1l
  rw [hn1] at hno0 ⊢
  have HNo := Aside0.mk hno0
  clear hno0 hn1 hn1l
  have HP := Aside0.mk hpb
  have HP1 := Aside0.mk h1
  have HB := Aside0.mk hB
  have HW := Aside0.mk hB.size
  have hu := Try.underlying41
  clear hI hC hpb hB hop hl
  go_enter Try.func22, Try.ntmps22
  go_wp2
  refine start_ (n := 12) (S := fun w' => w'.cell? ⟨p.block, p.off + 1, none⟩ = some (.string nm) ∧ w'.cell? ⟨p.block, p.off + 3, none⟩ = some (.slice A ats.length c)) (ds := [11]) #[false, false, false, false, false, false, false, false, false, false, false, false] (by kernel_rfl) rfl rfl ⟨h1, h3⟩ (fun hHeld => ?_)
  refine pure_ (i := 0) (N := some 4) (v := ?_) (a' := ?_) #[true, false, false, false, false, false, false, false, false, false, false, false] rfl rfl (by kernel_rfl) (fun _ _ _ h => h) (Or.inl ⟨by rfl, ?_⟩) ?_ ?_
  rotate_left
  · intro w'
    go_simp
    with_reducible rfl
  rotate_left
  · simp only [Act.put, List.setIfInBounds_toArray, List.set_cons_zero, List.set_cons_succ, i64_w, i32_w]
    rfl
  refine pure_ (i := 1) (N := some 5) (v := ?_) (a' := ?_) #[true, true, false, false, false, false, false, false, false, false, false, false] rfl rfl (by kernel_rfl) (fun _ _ _ h => h) (Or.inl ⟨by rfl, ?_⟩) ?_ ?_
  rotate_left
  · intro w'
    go_simp
    with_reducible rfl
  rotate_left
  · simp only [Act.put, List.setIfInBounds_toArray, List.set_cons_zero, List.set_cons_succ, i64_w, i32_w]
    rfl
  refine pure_ (i := 2) (N := some 6) (v := ?_) (a' := ?_) #[true, true, true, false, false, false, false, false, false, false, false, false] rfl rfl (by kernel_rfl) (fun _ _ _ h => h) (Or.inl ⟨by rfl, ?_⟩) ?_ ?_
  rotate_left
  · intro w'
    go_simp
    with_reducible rfl
  rotate_left
  · simp only [Act.put, List.setIfInBounds_toArray, List.set_cons_zero, List.set_cons_succ, i64_w, i32_w]
    rfl
  refine pure_ (i := 3) (N := some 7) (v := ?_) (a' := ?_) #[true, true, true, true, false, false, false, false, false, false, false, false] rfl rfl (by kernel_rfl) (fun _ _ _ h => h) (Or.inl ⟨by rfl, ?_⟩) ?_ ?_
  rotate_left
  · intro w'
    go_simp
    with_reducible rfl
  rotate_left
  · simp only [Act.put, List.setIfInBounds_toArray, List.set_cons_zero, List.set_cons_succ, i64_w, i32_w]
    rfl
  refine pure_ (i := 5) (N := some 9) (v := ?_) (a' := ?_) #[true, true, true, true, false, true, false, false, false, false, false, false] rfl rfl (by kernel_rfl) (fun _ _ _ h => h) (Or.inl ⟨by rfl, ?_⟩) ?_ ?_
  rotate_left
  · intro w'
    go_simp
    with_reducible rfl
  rotate_left
  · simp only [Act.put, List.setIfInBounds_toArray, List.set_cons_zero, List.set_cons_succ, i64_w, i32_w]
    rfl
  refine pure_ (i := 6) (N := some 10) (v := ?_) (a' := ?_) #[true, true, true, true, false, true, true, false, false, false, false, false] rfl rfl (by kernel_rfl) (fun _ _ _ h => h) (Or.inl ⟨by rfl, ?_⟩) ?_ ?_
  rotate_left
  · intro w'
    go_simp
    with_reducible rfl
  rotate_left
  · simp only [Act.put, List.setIfInBounds_toArray, List.set_cons_zero, List.set_cons_succ, i64_w, i32_w]
    rfl
  refine pure_ (i := 7) (N := some 11) (v := ?_) (a' := ?_) #[true, true, true, true, false, true, true, true, false, false, false, false] rfl rfl (by kernel_rfl) (fun _ _ _ h => h) (Or.inl ⟨by rfl, ?_⟩) ?_ ?_
  rotate_left
  · intro w'
    go_simp
    with_reducible rfl
  rotate_left
  · simp only [Act.put, List.setIfInBounds_toArray, List.set_cons_zero, List.set_cons_succ, i64_w, i32_w]
    rfl
  refine take_ (i := 4) (N := some 8) (v := ?_) (a' := ?_) #[true, true, true, true, true, true, true, true, false, false, false, false] rfl rfl (by kernel_rfl) (fun _ _ _ h => h) (Or.inl ⟨by rfl, ?_⟩) hHeld ?_ ?_
  rotate_left
  · rintro w' ⟨s0, s1⟩
    go_simp
    with_reducible rfl
  rotate_left
  · simp only [Act.put, List.setIfInBounds_toArray, List.set_cons_zero, List.set_cons_succ, i64_w, i32_w]
    rfl
  refine take_ (i := 8) (N := some 12) (v := ?_) (a' := ?_) #[true, true, true, true, true, true, true, true, true, false, false, false] rfl rfl (by kernel_rfl) (fun _ _ _ h => h) (Or.inl ⟨by rfl, ?_⟩) hHeld ?_ ?_
  rotate_left
  · rintro w' ⟨s0, s1⟩
    go_simp
    with_reducible rfl
  rotate_left
  · simp only [Act.put, List.setIfInBounds_toArray, List.set_cons_zero, List.set_cons_succ, i64_w, i32_w]
    rfl
  refine one_ (i := 9) (N := some 13) #[true, true, true, true, true, true, true, true, true, true, false, false] rfl rfl (by kernel_rfl) (by decide) (fun K hK => ?_)
  refine goes_ Try.func30 (by kernel_rfl) rfl #[.slice A ats.length c] (by rfl) rfl rfl (by simp only [List.map_toArray, List.map_cons, List.map_nil]; rfl) ?_
  with_reducible refine (HCl.out).mono ?_
  rintro e w3 ⟨va, rfl, hva, hb3⟩
  refine ⟨_, rfl, ?_⟩
  obtain ⟨va1, va2, eva⟩ := Kd.R_slice hva
  subst eva
  refine hK.out _ _ ⟨((hb3.cell (p := ⟨p.block, p.off + 1, none⟩) (Nat.lt_of_lt_of_le HP.out HW.out)).trans h1), ((hb3.cell (p := ⟨p.block, p.off + 3, none⟩) (Nat.lt_of_lt_of_le HP.out HW.out)).trans h3)⟩ (fun hHeld => ?_)
  clear hK K
  refine norm_ (a' := ?_) ?_ ?_
  rotate_left
  · show Act.put _ (some 13) _ = _
    simp only [Act.put, List.setIfInBounds_toArray, List.set_cons_zero, List.set_cons_succ, i64_w, i32_w]
    rfl
  refine pure_ (i := 10) (N := some 14) (v := ?_) (a' := ?_) #[true, true, true, true, true, true, true, true, true, true, true, false] rfl rfl (by kernel_rfl) (fun _ _ _ h => h) (Or.inl ⟨by rfl, ?_⟩) ?_ ?_
  rotate_left
  · intro w'
    go_simp
    with_reducible rfl
  rotate_left
  · simp only [Act.put, List.setIfInBounds_toArray, List.set_cons_zero, List.set_cons_succ, i64_w, i32_w]
    rfl
  refine last_ (i := 11) (N := some 15) #[true, true, true, true, true, true, true, true, true, true, true, true] rfl rfl (by kernel_rfl) (by decide) (fun K hK => ?_)
  refine goes_ Try.func21 (by kernel_rfl) rfl #[.pointer (some ⟨b, 0, none⟩), .agg #[.int .i64 1, .string nm, .string ⟨#[]⟩, .slice va1 ats.length va2, .int .i64 0]] (by rfl) rfl rfl (by simp only [List.map_toArray, List.map_cons, List.map_nil]; rfl) ?_
  with_reducible refine (HNo.out w3 _ hb3 hva).mono ?_
  rintro e w4 ⟨rfl, hbd, hb4⟩
  refine ⟨_, rfl, ?_⟩
  refine hK.out _ _ ?_
  clear hK K
  refine norm_ (a' := ?_) ?_ ?_
  rotate_left
  · show Act.put _ (some 15) _ = _
    simp only [Act.put, List.setIfInBounds_toArray, List.set_cons_zero, List.set_cons_succ, i64_w, i32_w]
    rfl
  refine done_ (by kernel_rfl) ?_
  have g1 := (hb4.cell (p := ⟨p.block, p.off + 1, none⟩) HP.out).trans ((HB.out.cell (p := ⟨p.block, p.off + 1, none⟩) HP.out).symm.trans HP1.out)
  have HK := Aside0.mk (kind_calls nm w4)
  have HB4 := Aside0.mk hb4
  have HBD := Aside0.mk hbd
  clear h1 h3 HCl HNo HP1 HB hva hb3 hb4
  obtain ⟨hb0, v0, v1, hb1, hs, hr⟩ := hbd
  obtain ⟨A0, c0, rfl⟩ := Kd.S_slice hs
  obtain ⟨A1, c1, rfl⟩ := Kd.R_slice hr
  have y0 : w4.cell? ⟨b, 0, none⟩ = some (.slice A0 ns1.length c0) := (blk_cell hb1 0).trans rfl
  have y1 : w4.cell? ⟨b, 1, none⟩ = some (.slice A1 op.length c1) := (blk_cell hb1 1).trans rfl
  have HB0 := Aside0.mk hb0
  have HB1 := Aside0.mk hb1
  have HS := Aside0.mk hs
  have HR := Aside0.mk hr
  clear hb0 hb1 hs hr
  by_cases k1 : kindOf nm = 1
  · rw [k1] at HK
    have HO := Aside0.mk (show startOp ns op nm = op by unfold startOp; rw [if_neg (fun h => h.1 k1)])
    clear k1
    go_wp2_with (go_at_call 31; refine HK.out.mono ?_; rintro e w5 ⟨rfl, ⟨m, rfl⟩⟩)
    go_end0
    rw [HO.out]
    exact ⟨rfl, HBD.out.drewN _, pw_below_drewN HB4.out _⟩
  · have k1b : (kindOf nm == 1) = false := by simpa using k1
    have k1c : (kindOf nm != 1) = true := by simpa using k1
    by_cases k2 : op.length ≤ 32
    · have k2b : (op.length : Int) ≤ 32 := by omega
      have HO := Aside0.mk (show startOp ns op nm = op ++ [(ns.length : Int)] by unfold startOp; rw [if_pos ⟨k1, k2⟩])
      clear k1
      go_wp2_with (go_at_call 31; refine HK.out.mono ?_; rintro e w5 ⟨rfl, ⟨m, rfl⟩⟩)
      obtain ⟨w5, h5⟩ : ∃ w5, w4.drewN m = w5 := ⟨_, rfl⟩
      rw [h5]
      replace y0 : w5.cell? ⟨b, 0, none⟩ = some (.slice A0 ns1.length c0) := by rw [← h5]; exact y0
      replace y1 : w5.cell? ⟨b, 1, none⟩ = some (.slice A1 op.length c1) := by rw [← h5]; exact y1
      have HB1' := Aside0.mk (show w5.heap[b]? = some (.cells #[.slice A0 ns1.length c0, .slice A1 op.length c1] 55 (0, 0)) by rw [← h5]; exact HB1.out)
      have HS' := Aside0.mk (show Kd.S k38 38 w5 w0.heap.size (fun _ => True) (.slice A0 ns1.length c0) ns1 by rw [← h5]; exact Kd.S_drewN HS.out m)
      have HR' := Aside0.mk (show Kd.R (Kd.int .i64) 3 w5 w0.heap.size (fun _ => True) (.slice A1 op.length c1) op by rw [← h5]; exact Kd.R_drewN HR.out m)
      have HB5 := Aside0.mk (show Below w0.heap.size w0 w5 by rw [← h5]; exact pw_below_drewN HB4.out m)
      have HBV := Aside0.mk (show some b ≠ (Value.slice A1 op.length c1).ownBlock from Kd.R_ne HR'.out HB1'.out (by decide))
      have hw : IntKind.i64.wrap ((ns1.length : Int) - 1) = (ns.length : Int) := by rw [HN1L.out, show ((ns.length + 1 : Nat) : Int) - 1 = (ns.length : Int) by omega]; exact IntWalk.i64_in _ (by omega)
      clear h5 HB1 HS HR HB4 HBD g1 HK hHeld k1b k1c k2b
      refine start_ (n := 16) (S := fun w' => w'.cell? ⟨b, 0, none⟩ = some (.slice A0 ns1.length c0) ∧ w'.cell? ⟨b, 1, none⟩ = some (.slice A1 op.length c1)) (ds := [15]) #[false, false, false, false, false, false, false, false, false, false, false, false, false, false, false, false] (by kernel_rfl) rfl rfl ⟨y0, y1⟩ (fun hHeld => ?_)
      refine pure_ (i := 0) (N := some 30) (v := ?_) (a' := ?_) #[true, false, false, false, false, false, false, false, false, false, false, false, false, false, false, false] rfl rfl (by kernel_rfl) (fun _ _ _ h => h) (Or.inl ⟨by rfl, ?_⟩) ?_ ?_
      rotate_left
      · intro w'
        go_simp
        with_reducible rfl
      rotate_left
      · simp only [Act.put, List.setIfInBounds_toArray, List.set_cons_zero, List.set_cons_succ, i64_w, i32_w]
        rfl
      refine pure_ (i := 1) (N := some 31) (v := ?_) (a' := ?_) #[true, true, false, false, false, false, false, false, false, false, false, false, false, false, false, false] rfl rfl (by kernel_rfl) (fun _ _ _ h => h) (Or.inl ⟨by rfl, ?_⟩) ?_ ?_
      rotate_left
      · intro w'
        go_simp
        with_reducible rfl
      rotate_left
      · simp only [Act.put, List.setIfInBounds_toArray, List.set_cons_zero, List.set_cons_succ, i64_w, i32_w]
        rfl
      refine pure_ (i := 2) (N := some 32) (v := ?_) (a' := ?_) #[true, true, true, false, false, false, false, false, false, false, false, false, false, false, false, false] rfl rfl (by kernel_rfl) (fun _ _ _ h => h) (Or.inl ⟨by rfl, ?_⟩) ?_ ?_
      rotate_left
      · intro w'
        go_simp
        with_reducible rfl
      rotate_left
      · simp only [Act.put, List.setIfInBounds_toArray, List.set_cons_zero, List.set_cons_succ, i64_w, i32_w]
        rfl
      refine pure_ (i := 3) (N := some 33) (v := ?_) (a' := ?_) #[true, true, true, true, false, false, false, false, false, false, false, false, false, false, false, false] rfl rfl (by kernel_rfl) (fun _ _ _ h => h) (Or.inl ⟨by rfl, ?_⟩) ?_ ?_
      rotate_left
      · intro w'
        go_simp
        with_reducible rfl
      rotate_left
      · simp only [Act.put, List.setIfInBounds_toArray, List.set_cons_zero, List.set_cons_succ, i64_w, i32_w]
        rfl
      refine pure_ (i := 5) (N := some 35) (v := ?_) (a' := ?_) #[true, true, true, true, false, true, false, false, false, false, false, false, false, false, false, false] rfl rfl (by kernel_rfl) (fun _ _ _ h => h) (Or.inl ⟨by rfl, ?_⟩) ?_ ?_
      rotate_left
      · intro w'
        go_simp
        with_reducible rfl
      rotate_left
      · simp only [Act.put, List.setIfInBounds_toArray, List.set_cons_zero, List.set_cons_succ, i64_w, i32_w]
        rfl
      refine pure_ (i := 6) (N := some 36) (v := ?_) (a' := ?_) #[true, true, true, true, false, true, true, false, false, false, false, false, false, false, false, false] rfl rfl (by kernel_rfl) (fun _ _ _ h => h) (Or.inl ⟨by rfl, ?_⟩) ?_ ?_
      rotate_left
      · intro w'
        go_simp
        with_reducible rfl
      rotate_left
      · simp only [Act.put, List.setIfInBounds_toArray, List.set_cons_zero, List.set_cons_succ, i64_w, i32_w]
        rfl
      refine pure_ (i := 7) (N := some 37) (v := ?_) (a' := ?_) #[true, true, true, true, false, true, true, true, false, false, false, false, false, false, false, false] rfl rfl (by kernel_rfl) (fun _ _ _ h => h) (Or.inl ⟨by rfl, ?_⟩) ?_ ?_
      rotate_left
      · intro w'
        go_simp
        with_reducible rfl
      rotate_left
      · simp only [Act.put, List.setIfInBounds_toArray, List.set_cons_zero, List.set_cons_succ, i64_w, i32_w]
        rfl
      refine take_ (i := 4) (N := some 34) (v := ?_) (a' := ?_) #[true, true, true, true, true, true, true, true, false, false, false, false, false, false, false, false] rfl rfl (by kernel_rfl) (fun _ _ _ h => h) (Or.inl ⟨by rfl, ?_⟩) hHeld ?_ ?_
      rotate_left
      · rintro w' ⟨s0, s1⟩
        go_simp
        with_reducible rfl
      rotate_left
      · simp only [Act.put, List.setIfInBounds_toArray, List.set_cons_zero, List.set_cons_succ, i64_w, i32_w]
        rfl
      refine take_ (i := 8) (N := some 38) (v := ?_) (a' := ?_) #[true, true, true, true, true, true, true, true, true, false, false, false, false, false, false, false] rfl rfl (by kernel_rfl) (fun _ _ _ h => h) (Or.inl ⟨by rfl, ?_⟩) hHeld ?_ ?_
      rotate_left
      · rintro w' ⟨s0, s1⟩
        go_simp
        with_reducible rfl
      rotate_left
      · simp only [Act.put, List.setIfInBounds_toArray, List.set_cons_zero, List.set_cons_succ, i64_w, i32_w]
        rfl
      refine pure_ (i := 9) (N := some 39) (v := ?_) (a' := ?_) #[true, true, true, true, true, true, true, true, true, true, false, false, false, false, false, false] rfl rfl (by kernel_rfl) (fun _ _ _ h => h) (Or.inl ⟨by rfl, ?_⟩) ?_ ?_
      rotate_left
      · intro w'
        go_simp
        with_reducible rfl
      rotate_left
      · simp only [Act.put, List.setIfInBounds_toArray, List.set_cons_zero, List.set_cons_succ, i64_w, i32_w]
        rfl
      refine pure_ (i := 10) (N := some 40) (v := ?_) (a' := ?_) #[true, true, true, true, true, true, true, true, true, true, true, false, false, false, false, false] rfl rfl (by kernel_rfl) (fun _ _ _ h => h) (Or.inl ⟨by rfl, ?_⟩) ?_ ?_
      rotate_left
      · intro w'
        go_simp
        with_reducible rfl
      rotate_left
      · simp only [Act.put, List.setIfInBounds_toArray, List.set_cons_zero, List.set_cons_succ, i64_w, i32_w]
        rfl
      refine one_ (i := 11) (N := some 41) #[true, true, true, true, true, true, true, true, true, true, true, true, false, false, false, false] rfl rfl (by kernel_rfl) (by decide) (fun K hK => ?_)
      refine value_ (w1 := ?_) (v := ?_) (by rfl) rfl ?_ ?_
      rotate_left 2
      · go_simp
        constructor
        · rfl
        · rfl
      refine hK.out _ _ ⟨(cell_alloc (w := w5.drew) y0 _), (cell_alloc (w := w5.drew) y1 _)⟩ (fun hHeld => ?_)
      clear hK K
      refine norm_ (a' := ?_) ?_ ?_
      rotate_left
      · show Act.put _ (some 41) _ = _
        simp only [Act.put, List.setIfInBounds_toArray, List.set_cons_zero, List.set_cons_succ, i64_w, i32_w]
        rfl
      refine one_ (i := 12) (N := some 42) #[true, true, true, true, true, true, true, true, true, true, true, true, true, false, false, false] rfl rfl (by kernel_rfl) (by decide) (fun K hK => ?_)
      refine Kd.R_append_step (Kd.int .i64) (w0 := w0) (W := w5.drew) w0.heap.size (by rfl) (.tmp 34) (.tmp 41) 39 3 (.int .i64 0) 8 (by rfl) Try.underlying39 infoInt (by rfl) (by decide) (by decide) (.slice A1 op.length c1) op (ns.length : Int) [.int .i64 (ns.length : Int)] (fun _ => True) (fun _ => False) (by rfl) (by rfl) rfl (fun q hq => hq.elim) (fun _ _ => trivial) (Kd.R_drew HR'.out) (below_drew HB5.out) (below_drew HB5.out).size (by omega) ?_
      intro v9 w9 hR9 hB9 hgr hat
      obtain ⟨A9, c9, e9⟩ := Kd.R_slice hR9
      rw [List.length_append, List.length_singleton] at e9
      subst e9
      have b9 : w9.heap[b]? = some (.cells #[.slice A0 ns1.length c0, .slice A1 op.length c1] 55 (0, 0)) := blk_grown (w := w5.drew) HB1'.out hgr HBV.out
      have z0 : w9.cell? ⟨b, 0, none⟩ = some (.slice A0 ns1.length c0) := (blk_cell b9 0).trans rfl
      have z1 : w9.cell? ⟨b, 1, none⟩ = some (.slice A1 op.length c1) := (blk_cell b9 1).trans rfl
      have f9 : w9.frozen? ⟨b, 1, none⟩ = false := blk_frozen b9 1
      refine hK.out _ _ ⟨z0, z1⟩ (fun hHeld => ?_)
      clear hK K
      refine norm_ (a' := ?_) ?_ ?_
      rotate_left
      · show Act.put _ (some 42) _ = _
        simp only [Act.put, List.setIfInBounds_toArray, List.set_cons_zero, List.set_cons_succ, i64_w, i32_w]
        rfl
      refine pure_ (i := 13) (N := some 43) (v := ?_) (a' := ?_) #[true, true, true, true, true, true, true, true, true, true, true, true, true, true, false, false] rfl rfl (by kernel_rfl) (fun _ _ _ h => h) (Or.inl ⟨by rfl, ?_⟩) ?_ ?_
      rotate_left
      · intro w'
        go_simp
        with_reducible rfl
      rotate_left
      · simp only [Act.put, List.setIfInBounds_toArray, List.set_cons_zero, List.set_cons_succ, i64_w, i32_w]
        rfl
      refine pure_ (i := 14) (N := some 44) (v := ?_) (a' := ?_) #[true, true, true, true, true, true, true, true, true, true, true, true, true, true, true, false] rfl rfl (by kernel_rfl) (fun _ _ _ h => h) (Or.inl ⟨by rfl, ?_⟩) ?_ ?_
      rotate_left
      · intro w'
        go_simp
        with_reducible rfl
      rotate_left
      · simp only [Act.put, List.setIfInBounds_toArray, List.set_cons_zero, List.set_cons_succ, i64_w, i32_w]
        rfl
      refine last_ (i := 15) (N := none) #[true, true, true, true, true, true, true, true, true, true, true, true, true, true, true, true] rfl rfl (by kernel_rfl) (by decide) (fun K hK => ?_)
      refine skip_ (w1 := ?_) (by rfl) rfl ?_ ?_
      rotate_left
      · go_simp
        rfl
      refine hK.out _ _ ?_
      clear hK K
      refine done_ (by kernel_rfl) ?_
      go_end0
      rw [HO.out]
      exact ⟨rfl, ⟨HB0.out, _, _, blk_set b9 1 _, Kd.S_set (Kd.S_over' (Kd.S_drew HS'.out) (fun q hq => Kd.R_typed HR'.out q hq) (by decide) hgr) b9 (by decide) 1 _, Kd.R_set hR9 b9 (by decide) 1 _⟩, hB9.setCell HB0.out _⟩
    · have k2b : decide ((op.length : Int) ≤ 32) = false := decide_eq_false (by omega)
      have HO := Aside0.mk (show startOp ns op nm = op by unfold startOp; rw [if_neg (fun h => k2 h.2)])
      clear k1 k2
      go_wp2_with (go_at_call 31; refine HK.out.mono ?_; rintro e w5 ⟨rfl, ⟨m, rfl⟩⟩)
      go_end0
      rw [HO.out]
      exact ⟨rfl, HBD.out.drewN _, pw_below_drewN HB4.out _⟩
end Go.Proofs.Ytkhgnaakcaghjaa.Tr
