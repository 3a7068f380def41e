/- A tree that grows (tree.builder, stoleref5.maker): what memory holds of it; inner, node. -/
import Derived.Test.YtkhgnaakcaghjaaTrMay
import Derived.Deep.RegionHeld3
import Derived.Deep.DrawnRows
import Derived.Handy
namespace Go.Proofs.Ytkhgnaakcaghjaa.Tr
open Go.RowKit Go.Proofs.Ytkhgnaakcaghjaa.XA Go.Proofs.YtkhgnaakcaghjaaW.PrintWords Go.Proofs.YtkhgnaakcaghjaaW.PrintLast Go.Proofs.YtkhgnaakcaghjaaW.PrintMore
attribute [local go_sem ↓] Go.wp_at_zero Go.wp_at_succ
set_option linter.unusedVariables false
set_option linter.unusedSimpArgs false

theorem infoNode : (Try.prog.info? 38).map (fun i => (i.zero, i.size, i.bytes)) = some (some (.agg #[(.int .i64 0), (.string ⟨#[]⟩), (.string ⟨#[]⟩), (.slice none 0 0), (.int .i64 0)]), 5, 72) := by kernel_rfl
theorem infoInt : (Try.prog.info? 3).map (fun i => (i.zero, i.size, i.bytes)) = some (some (.int .i64 0), 1, 8) := by kernel_rfl
theorem grown_cell {w w1 : World} {row : Option Nat} {g t : Nat} {cs : Array Value} (hg : w.grownBy w1 row) (h : w.heap[g]? = some (.cells cs t (0, 0))) (hne : some g ≠ row) (j : Nat) : w1.cell? ⟨g, j, none⟩ = cs[j]? := blk_cell (blk_grown h hg hne) j

/-- The struct (type T) at block b: its nodes, the numbers of those that are open. -/
def Bd (T : Nat) (w : World) (base b : Nat) (ok : Nat → Prop) (ns : List S38) (op : List Int) : Prop :=
  base ≤ b ∧ ∃ v0 v1, w.heap[b]? = some (.cells #[v0, v1] T (0, 0)) ∧ Kd.S k38 38 w base ok v0 ns ∧ Kd.R (Kd.int .i64) 3 w base (fun _ => True) v1 op

section
variable {T : Nat} {w w1 : World} {base b : Nat} {ok : Nat → Prop} {ns : List S38} {op : List Int}
theorem Bd.below (h : Bd T w base b ok ns op) (hb : Below w.heap.size w w1) : Bd T w1 base b ok ns op := by
  obtain ⟨h0, v0, v1, h1, h2, h3⟩ := h
  exact ⟨h0, v0, v1, (hb.block b (blk_lt h1)).trans h1, Kd.S_below h2 hb, Kd.R_below h3 hb⟩
theorem Bd.drewN (h : Bd T w base b ok ns op) (n : Nat) : Bd T (w.drewN n) base b ok ns op := h.below (pw_below_drewN (Below.refl _ _) n)
end

theorem Bd.alloc {T : Nat} {w : World} {base b : Nat} {ok : Nat → Prop} {ns : List S38} {op : List Int} (h : Bd T w base b ok ns op) (o : Obj) : Bd T (w.alloc o) base b ok ns op := h.below (below_alloc (Below.refl _ _) o)
/-- A store into a block that is none of its own. -/
theorem Bd.far {T : Nat} {w W : World} {base b g j : Nat} {ok : Nat → Prop} {ns : List S38} {op : List Int} {u : Value} (h : Bd T w base b ok ns op) (hb : Below w.heap.size w W) (hg : w.heap.size ≤ g) : Bd T (W.setCell ⟨g, j, none⟩ u) base b ok ns op := by
  have hb' : Below w.heap.size w (W.setCell ⟨g, j, none⟩ u) := hb.setCell hg u
  exact h.below hb'

/-- 'inner', whichever struct: the last that is open. -/
def lastOf (op : List Int) : Int := op.getLast?.getD 0

theorem last_rd (op : List Int) (h : op ≠ []) : rd op ((op.length : Int) - 1) = lastOf op := by
  unfold rd lastOf
  have hl : 0 < op.length := List.length_pos_iff.2 h
  rw [show ((op.length : Int) - 1).toNat = op.length - 1 by omega, List.getD_eq_getElem?_getD, List.getLast?_eq_getElem?]

set_option maxHeartbeats 1600000 in
theorem inner_calls (w : World) (base b : Nat) (ok : Nat → Prop) (ns : List S38) (op : List Int) (hI : Bd 55 w base b ok ns op) (hop : op ≠ []) (hlen : op.length ≤ 4611686018427387904) :
    Calls Try.prog 29 #[.pointer (some ⟨b, 0, none⟩)] w fun e w' => e = .returned (.int .i64 (lastOf op)) ∧ Drawn0 w w' := by
  obtain ⟨h0, v0, v1, h1, h2, h3⟩ := hI
  obtain ⟨A, c, rfl, hc, hr⟩ := Kd.R_reads h3
  have g1 : w.cell? ⟨b, 1, none⟩ = some (.slice A op.length c) := (blk_cell h1 1).trans rfl
  have hl : 0 < op.length := List.length_pos_iff.2 hop
  obtain ⟨ad, e, hx⟩ := Kd.at_int hr ((op.length : Int) - 1) (by omega) (by omega)
  cases e
  have HL := Aside0.mk (last_rd op hop)
  rw [HL.out] at hx
  obtain ⟨j, hj⟩ : ∃ j : Int, (op.length : Int) - 1 = j := ⟨_, rfl⟩
  rw [hj] at hx
  have hw : IntKind.i64.wrap ((op.length : Int) - 1) = j := by rw [← hj]; exact IntWalk.i64_in _ (by omega)
  have p0 : (0 ≤ j) = True := eq_true (by omega)
  have p1 : (j < (op.length : Int)) = True := eq_true (by omega)
  clear h0 h1 h2 h3 hr hop hj hl hlen
  go_enter Try.func29, Try.ntmps29
  go_wp2
  repeat (go_quiet (fail); try go_wp2)
  go_ret
  exact ⟨rfl, by repeat (first | exact Drawn0.refl _ | apply Drawn0.step)⟩

set_option maxHeartbeats 3200000 in
set_option maxRecDepth 100000 in
theorem node_calls (w0 w : World) (b : Nat) (okp : Nat → Prop) (ns : List S38) (op : List Int) (k p : Int) (nm tx : ByteArray) (va : Value) (ats : List S48)
    (hB : Below w0.heap.size w0 w) (hI : Bd 55 w w0.heap.size b (fun k => ¬ okp k) ns op) (hva : Kd.R k48 48 w w0.heap.size okp va ats) (hop : op ≠ []) (hlen : op.length ≤ 4611686018427387904) (hns : ns.length ≤ 4611686018) :
    Calls Try.prog 21 #[.pointer (some ⟨b, 0, none⟩), .agg #[.int .i64 k, .string nm, .string tx, va, .int .i64 p]] w fun e w' => e = .returned (.tuple #[]) ∧
      Bd 55 w' w0.heap.size b (fun _ => True) (ns ++ [⟨k, nm, tx, ats, lastOf op⟩]) op ∧ Below w0.heap.size w0 w' := by
  have HIn := Aside0.mk (inner_calls (w.alloc (.cells #[.int .i64 k, .string nm, .string tx, va, .int .i64 p] 38)) w0.heap.size b _ ns op (hI.alloc _) hop hlen)
  have HB := Aside0.mk hB
  have HI := Aside0.mk hI
  have HV := Aside0.mk hva
  obtain ⟨va1, va2, eva⟩ := Kd.R_slice hva
  subst eva
  clear hI hB hva hop
  go_enter Try.func21, Try.ntmps21
  go_wp2_with (go_at_call 29; refine HIn.out.mono ?_; rintro e w1 ⟨rfl, ⟨m, rfl⟩⟩)
  obtain ⟨w2, hw2⟩ : ∃ w2, ((w.alloc (.cells #[.int .i64 k, .string nm, .string tx, .slice va1 ats.length va2, .int .i64 p] 38)).drewN m).setCell ⟨w.heap.size, 4, none⟩ (.int .i64 (lastOf op)) = w2 := ⟨_, rfl⟩
  rw [hw2]
  have hlow : Below w.heap.size w w2 := by rw [← hw2]; exact (pw_below_drewN ((Below.refl _ _).alloc (Nat.le_refl _) _) m).setCell (Nat.le_refl _) _
  have hg : w2.heap[w.heap.size]? = some (.cells #[.int .i64 k, .string nm, .string tx, .slice va1 ats.length va2, .int .i64 (lastOf op)] 38 (0, 0)) := by
    rw [← hw2]; exact blk_set (t := 38) (cs := #[.int .i64 k, .string nm, .string tx, .slice va1 ats.length va2, .int .i64 p]) (by simpa using heap_alloc_new w _) 4 _
  have HG := Aside0.mk hg
  have HI2 := Aside0.mk (HI.out.below hlow)
  have HV2 := Aside0.mk (Kd.R_below HV.out hlow)
  have HB2 := Aside0.mk (HB.out.trans (hlow.mono HB.out.size))
  obtain ⟨g, hgg⟩ : ∃ g, w.heap.size = g := ⟨_, rfl⟩
  rw [hgg] at HG ⊢
  have HGE := Aside0.mk (show w0.heap.size ≤ g by rw [← hgg]; exact HB.out.size)
  have HNE := Aside0.mk (show ∀ v0 : Value × Value, w2.heap[b]? = some (.cells #[v0.1, v0.2] 55 (0, 0)) → some g ≠ v0.1.ownBlock by
    rintro ⟨x0, x1⟩ h e
    obtain ⟨_, y0, y1, h1, h2, _⟩ := HI.out
    have h1' := (hlow.block b (blk_lt h1)).trans h1
    rw [h] at h1'
    have e2 : x0 = y0 := by injection h1' with h1'; injection h1' with h1'; exact Option.some.inj (congrArg (fun a : Array Value => a[0]?) h1')
    subst e2
    have := Kd.S_lt h2 g e.symm
    omega)
  clear hw2 hlow hg HI HV HB HIn hgg
  obtain ⟨hb0, v0, v1, hb1, hs, hr⟩ := HI2.out
  have HB1 := Aside0.mk hb1
  have HS := Aside0.mk hs
  have HR := Aside0.mk hr
  have HB0 := Aside0.mk hb0
  have c0 : w2.cell? ⟨b, 0, none⟩ = some v0 := (blk_cell hb1 0).trans rfl
  have d0 : w2.cell? ⟨g, 0, none⟩ = some (.int .i64 k) := (blk_cell HG.out 0).trans rfl
  have d1 : w2.cell? ⟨g, 1, none⟩ = some (.string nm) := (blk_cell HG.out 1).trans rfl
  have d2 : w2.cell? ⟨g, 2, none⟩ = some (.string tx) := (blk_cell HG.out 2).trans rfl
  have d3 : w2.cell? ⟨g, 3, none⟩ = some (.slice va1 ats.length va2) := (blk_cell HG.out 3).trans rfl
  have d4 : w2.cell? ⟨g, 4, none⟩ = some (.int .i64 (lastOf op)) := (blk_cell HG.out 4).trans rfl
  have HN0 := Aside0.mk (HNE.out (v0, v1) hb1)
  have HBV := Aside0.mk (show some b ≠ v0.ownBlock from Kd.S_ne hs hb1 (by decide))
  clear hb0 hb1 hs hr HI2 HNE
  refine start_ (n := 11) (S := fun w' => w'.cell? ⟨b, 0, none⟩ = some v0 ∧ w'.cell? ⟨g, 0, none⟩ = some (.int .i64 k) ∧ w'.cell? ⟨g, 1, none⟩ = some (.string nm) ∧ w'.cell? ⟨g, 2, none⟩ = some (.string tx) ∧ w'.cell? ⟨g, 3, none⟩ = some (.slice va1 ats.length va2) ∧ w'.cell? ⟨g, 4, none⟩ = some (.int .i64 (lastOf op))) (ds := [10]) #[false, false, false, false, false, false, false, false, false, false, false] (by kernel_rfl) rfl rfl ⟨c0, d0, d1, d2, d3, d4⟩ (fun hHeld => ?_)
  refine pure_ (i := 0) (N := some 7) (v := ?_) (a' := ?_) #[true, false, false, false, false, false, false, false, false, false, false] rfl rfl (by kernel_rfl) (fun _ _ _ h => h) (Or.inl ⟨by rfl, ?_⟩) ?_ ?_
  rotate_left
  · intro w'
    go_simp
    with_reducible rfl
  rotate_left
  · simp only [Act.put, List.setIfInBounds_toArray, List.set_cons_zero, List.set_cons_succ, i64_w, i32_w]
    rfl
  refine pure_ (i := 1) (N := some 8) (v := ?_) (a' := ?_) #[true, true, false, false, false, false, false, false, false, false, false] rfl rfl (by kernel_rfl) (fun _ _ _ h => h) (Or.inl ⟨by rfl, ?_⟩) ?_ ?_
  rotate_left
  · intro w'
    go_simp
    with_reducible rfl
  rotate_left
  · simp only [Act.put, List.setIfInBounds_toArray, List.set_cons_zero, List.set_cons_succ, i64_w, i32_w]
    rfl
  refine pure_ (i := 2) (N := some 9) (v := ?_) (a' := ?_) #[true, true, true, false, false, false, false, false, false, false, false] rfl rfl (by kernel_rfl) (fun _ _ _ h => h) (Or.inl ⟨by rfl, ?_⟩) ?_ ?_
  rotate_left
  · intro w'
    go_simp
    with_reducible rfl
  rotate_left
  · simp only [Act.put, List.setIfInBounds_toArray, List.set_cons_zero, List.set_cons_succ, i64_w, i32_w]
    rfl
  refine pure_ (i := 3) (N := some 10) (v := ?_) (a' := ?_) #[true, true, true, true, false, false, false, false, false, false, false] rfl rfl (by kernel_rfl) (fun _ _ _ h => h) (Or.inl ⟨by rfl, ?_⟩) ?_ ?_
  rotate_left
  · intro w'
    go_simp
    with_reducible rfl
  rotate_left
  · simp only [Act.put, List.setIfInBounds_toArray, List.set_cons_zero, List.set_cons_succ, i64_w, i32_w]
    rfl
  refine take_ (i := 4) (N := some 11) (v := ?_) (a' := ?_) #[true, true, true, true, true, false, false, false, false, false, false] rfl rfl (by kernel_rfl) (fun _ _ _ h => h) (Or.inl ⟨by rfl, ?_⟩) hHeld ?_ ?_
  rotate_left
  · rintro w' ⟨s0, s1, s2, s3, s4, s5⟩
    go_simp
    with_reducible rfl
  rotate_left
  · simp only [Act.put, List.setIfInBounds_toArray, List.set_cons_zero, List.set_cons_succ, i64_w, i32_w]
    rfl
  refine take_ (i := 5) (N := some 12) (v := ?_) (a' := ?_) #[true, true, true, true, true, true, false, false, false, false, false] rfl rfl (by kernel_rfl) (fun _ _ _ h => h) (Or.inl ⟨by rfl, ?_⟩) hHeld ?_ ?_
  rotate_left
  · rintro w' ⟨s0, s1, s2, s3, s4, s5⟩
    go_simp
    with_reducible rfl
  rotate_left
  · simp only [Act.put, List.setIfInBounds_toArray, List.set_cons_zero, List.set_cons_succ, i64_w, i32_w]
    rfl
  refine one_ (i := 6) (N := some 13) #[true, true, true, true, true, true, true, false, false, false, false] rfl rfl (by kernel_rfl) (by decide) (fun K hK => ?_)
  refine value_ (w1 := ?_) (v := ?_) (by rfl) rfl ?_ ?_
  rotate_left 2
  · go_simp
    constructor
    · rfl
    · rfl
  refine hK.out _ _ ⟨(cell_alloc (w := w2.drew) c0 _), (cell_alloc (w := w2.drew) d0 _), (cell_alloc (w := w2.drew) d1 _), (cell_alloc (w := w2.drew) d2 _), (cell_alloc (w := w2.drew) d3 _), (cell_alloc (w := w2.drew) d4 _)⟩ (fun hHeld => ?_)
  clear hK K
  refine norm_ (a' := ?_) ?_ ?_
  rotate_left
  · show Act.put _ (some 13) _ = _
    simp only [Act.put, List.setIfInBounds_toArray, List.set_cons_zero, List.set_cons_succ, i64_w, i32_w]
    rfl
  refine one_ (i := 7) (N := some 14) #[true, true, true, true, true, true, true, true, false, false, false] rfl rfl (by kernel_rfl) (by decide) (fun K hK => ?_)
  refine Kd.S_append_step k38 (w0 := w0) (W := w2.drew) w0.heap.size (by rfl) (.tmp 11) (.tmp 13) 24 38 (.agg #[(.int .i64 0), (.string ⟨#[]⟩), (.string ⟨#[]⟩), (.slice none 0 0), (.int .i64 0)]) 72 (by rfl) Try.underlying24 infoNode (by rfl) (by decide) (by decide) v0 ns ⟨k, nm, tx, ats, lastOf op⟩ [.int .i64 k, .string nm, .string tx, .slice va1 ats.length va2, .int .i64 (lastOf op)] (fun _ => True) okp (by rfl) (by rfl) (k38_mkM _ _ _ (⟨k, nm, tx, ats, lastOf op⟩ : S38) (Kd.R_drew HV2.out)) (fun q hq => ⟨trivial, fun e => (Kd.S_R HS.out).1 q e.symm hq⟩) (fun _ _ => trivial) (Kd.S_mono (Kd.S_drew HS.out) (fun _ h => ⟨trivial, h⟩)) (below_drew HB2.out) (below_drew HB2.out).size (by omega) ?_
  intro v9 w9 hS9 hB9 hgr hat
  obtain ⟨A9, c9, e9⟩ := Kd.S_slice hS9
  rw [List.length_append, List.length_singleton] at e9
  subst e9
  have b9 : w9.heap[b]? = some (.cells #[v0, v1] 55 (0, 0)) := blk_grown (w := w2.drew) HB1.out hgr HBV.out
  have c9' : w9.cell? ⟨b, 0, none⟩ = some v0 := (blk_cell b9 0).trans rfl
  have f9 : w9.frozen? ⟨b, 0, none⟩ = false := blk_frozen b9 0
  refine hK.out _ _ ⟨c9', (grown_cell (w := w2.drew) hgr HG.out HN0.out 0), (grown_cell (w := w2.drew) hgr HG.out HN0.out 1), (grown_cell (w := w2.drew) hgr HG.out HN0.out 2), (grown_cell (w := w2.drew) hgr HG.out HN0.out 3), (grown_cell (w := w2.drew) hgr HG.out HN0.out 4)⟩ (fun hHeld => ?_)
  clear hK K
  refine norm_ (a' := ?_) ?_ ?_
  rotate_left
  · show Act.put _ (some 14) _ = _
    simp only [Act.put, List.setIfInBounds_toArray, List.set_cons_zero, List.set_cons_succ, i64_w, i32_w]
    rfl
  refine pure_ (i := 8) (N := some 15) (v := ?_) (a' := ?_) #[true, true, true, true, true, true, true, true, true, false, false] rfl rfl (by kernel_rfl) (fun _ _ _ h => h) (Or.inl ⟨by rfl, ?_⟩) ?_ ?_
  rotate_left
  · intro w'
    go_simp
    with_reducible rfl
  rotate_left
  · simp only [Act.put, List.setIfInBounds_toArray, List.set_cons_zero, List.set_cons_succ, i64_w, i32_w]
    rfl
  refine pure_ (i := 9) (N := some 16) (v := ?_) (a' := ?_) #[true, true, true, true, true, true, true, true, true, true, false] rfl rfl (by kernel_rfl) (fun _ _ _ h => h) (Or.inl ⟨by rfl, ?_⟩) ?_ ?_
  rotate_left
  · intro w'
    go_simp
    with_reducible rfl
  rotate_left
  · simp only [Act.put, List.setIfInBounds_toArray, List.set_cons_zero, List.set_cons_succ, i64_w, i32_w]
    rfl
  refine last_ (i := 10) (N := none) #[true, true, true, true, true, true, true, true, true, true, true] rfl rfl (by kernel_rfl) (by decide) (fun K hK => ?_)
  refine skip_ (w1 := ?_) (by rfl) rfl ?_ ?_
  rotate_left
  · go_simp
    rfl
  refine hK.out _ _ ?_
  clear hK K
  refine done_ (by kernel_rfl) ?_
  go_end0
  refine ⟨rfl, ⟨HB0.out, _, v1, blk_set b9 0 _, Kd.S_set hS9 b9 (by decide) 0 _, Kd.R_set (Kd.R_over' (Kd.R_drew HR.out) (fun q hq => Kd.S_typed HS.out q hq) (by decide) hgr) b9 (by decide) 0 _⟩, hB9.setCell HB0.out _⟩
end Go.Proofs.Ytkhgnaakcaghjaa.Tr
