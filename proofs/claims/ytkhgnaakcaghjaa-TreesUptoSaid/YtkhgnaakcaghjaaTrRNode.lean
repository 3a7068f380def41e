/- stoleref5.maker's node: walked. -/
import Derived.Test.YtkhgnaakcaghjaaTrBuild
namespace Go.Proofs.Ytkhgnaakcaghjaa.Tr
open Go.RowKit Go.Proofs.Ytkhgnaakcaghjaa.XA Go.Proofs.YtkhgnaakcaghjaaW.PrintWords Go.Proofs.YtkhgnaakcaghjaaW.PrintLast Go.Proofs.YtkhgnaakcaghjaaW.PrintMore
attribute [local go_sem ↓] Go.wp_at_zero Go.wp_at_succ
set_option linter.unusedVariables false
set_option linter.unusedSimpArgs false

/-- What is none of the struct's own (its rows' types, its own) is as it was. -/
def Same (w w' : World) : Prop := ∀ (i : Nat) (cs : Array Value) (e : Nat), w.heap[i]? = some (.cells cs e (0, 0)) → e ≠ 38 → e ≠ 62 → e ≠ 3 → w'.heap[i]? = w.heap[i]?
theorem ne_typed {w : World} {v : Value} {i e t : Nat} {cs : Array Value} (h : w.heap[i]? = some (.cells cs e (0, 0))) (hv : ∀ q, v.ownBlock = some q → ∃ cells, w.heap[q]? = some (.cells cells t (0, 0))) (hne : e ≠ t) : some i ≠ v.ownBlock := by
  intro he
  obtain ⟨cells, hc⟩ := hv i he.symm
  rw [h] at hc
  injection hc with hc
  injection hc with _ hc
  exact hne hc

set_option maxHeartbeats 3200000 in
set_option maxRecDepth 100000 in
theorem rnode_calls (w0 w : World) (b : Nat) (okp : Nat → Prop) (ns : List S38) (op : List Int) (k p : Int) (nm tx : ByteArray) (va : Value) (ats : List S48)
    (hB : Below w0.heap.size w0 w) (hI : Bd 62 w w0.heap.size b (fun k => ¬ okp k) ns op) (hva : Kd.R k48 48 w w0.heap.size okp va ats) (hop : op ≠ []) (hlen : op.length ≤ 4611686018427387904) (hns : ns.length ≤ 4611686018) :
    Calls Try.prog 32 #[.pointer (some ⟨b, 0, none⟩), .agg #[.int .i64 k, .string nm, .string tx, va, .int .i64 p]] w fun e w' => e = .returned (.tuple #[]) ∧
      Bd 62 w' w0.heap.size b (fun _ => True) (ns ++ [⟨k, nm, tx, ats, lastOf op⟩]) op ∧ Below w0.heap.size w0 w' ∧ Same w w' := by
  obtain ⟨hb0', v0', v1', hb1', hs', hr'⟩ := hI
  obtain ⟨A1, c1, rfl, _, hC1⟩ := Kd.R_reads hr'
  have hl : 0 < op.length := List.length_pos_iff.2 hop
  obtain ⟨j, hj⟩ : ∃ j : Int, (op.length : Int) - 1 = j := ⟨_, rfl⟩
  obtain ⟨ad, e, hx⟩ := Kd.at_int hC1 j (by omega) (by omega)
  cases e
  have hlr := last_rd op hop
  rw [hj] at hlr
  rw [hlr] at hx
  have hw : IntKind.i64.wrap ((op.length : Int) - 1) = j := by rw [← hj]; exact IntWalk.i64_in _ (by omega)
  have p0 : (0 ≤ j) = True := eq_true (by omega)
  have p1 : (j < (op.length : Int)) = True := eq_true (by omega)
  have cb : w.cell? ⟨b, 1, none⟩ = some (.slice (some ad) op.length c1) := (blk_cell hb1' 1).trans rfl
  have hI : Bd 62 w w0.heap.size b (fun k => ¬ okp k) ns op := ⟨hb0', _, _, hb1', hs', hr'⟩
  have HB := Aside0.mk hB
  have HI := Aside0.mk hI
  have HV := Aside0.mk hva
  obtain ⟨va1, va2, eva⟩ := Kd.R_slice hva
  subst eva
  clear hI hB hva hop hb0' hb1' hs' hr' hC1 hl hj hlr
  go_enter Try.func32, Try.ntmps32
  obtain ⟨wa, hwa⟩ : ∃ wa, w.alloc (.cells #[.int .i64 k, .string nm, .string tx, .slice va1 ats.length va2, .int .i64 p] 38) = wa := ⟨_, rfl⟩
  have hga : wa.heap[w.heap.size]? = some (.cells #[.int .i64 k, .string nm, .string tx, .slice va1 ats.length va2, .int .i64 p] 38 (0, 0)) := by rw [← hwa]; simpa using heap_alloc_new w _
  have cb' : wa.cell? ⟨b, 1, none⟩ = some (.slice (some ad) op.length c1) := by rw [← hwa]; exact cell_alloc cb _
  have hx' : wa.cell? (ad.add j.toNat) = some (.int .i64 (lastOf op)) := by rw [← hwa]; exact cell_alloc hx _
  have hlowa : Below w.heap.size w wa := by rw [← hwa]; exact (Below.refl _ _).alloc (Nat.le_refl _) _
  have z4 : wa.cell? ⟨w.heap.size, 4, none⟩ = some (.int .i64 p) := (blk_cell hga 4).trans rfl
  have fz : wa.frozen? ⟨w.heap.size, 4, none⟩ = false := blk_frozen hga 4
  have HGA := Aside0.mk hga
  have HLA := Aside0.mk hlowa
  go_wp2
  clear hwa cb hx hga hlowa
  refine start_ (n := 14) (S := fun w' => w'.cell? ⟨b, 1, none⟩ = some (.slice (some ad) op.length c1) ∧ w'.cell? (ad.add j.toNat) = some (.int .i64 (lastOf op))) (ds := [13]) #[false, false, false, false, false, false, false, false, false, false, false, false, false, false] (by kernel_rfl) rfl rfl ⟨cb', hx'⟩ (fun hHeld => ?_)
  refine pure_ (i := 0) (N := some 4) (v := ?_) (a' := ?_) #[true, false, false, false, false, false, false, false, false, false, false, false, false, false] rfl rfl (by kernel_rfl) (fun _ _ _ h => h) (Or.inl ⟨by rfl, ?_⟩) ?_ ?_
  rotate_left
  · intro w'
    go_simp
    with_reducible rfl
  rotate_left
  · simp only [Act.put, List.setIfInBounds_toArray, List.set_cons_zero, List.set_cons_succ, i64_w, i32_w]
    rfl
  refine pure_ (i := 1) (N := some 5) (v := ?_) (a' := ?_) #[true, true, false, false, false, false, false, false, false, false, false, false, false, false] rfl rfl (by kernel_rfl) (fun _ _ _ h => h) (Or.inl ⟨by rfl, ?_⟩) ?_ ?_
  rotate_left
  · intro w'
    go_simp
    with_reducible rfl
  rotate_left
  · simp only [Act.put, List.setIfInBounds_toArray, List.set_cons_zero, List.set_cons_succ, i64_w, i32_w]
    rfl
  refine pure_ (i := 2) (N := some 6) (v := ?_) (a' := ?_) #[true, true, true, false, false, false, false, false, false, false, false, false, false, false] rfl rfl (by kernel_rfl) (fun _ _ _ h => h) (Or.inl ⟨by rfl, ?_⟩) ?_ ?_
  rotate_left
  · intro w'
    go_simp
    with_reducible rfl
  rotate_left
  · simp only [Act.put, List.setIfInBounds_toArray, List.set_cons_zero, List.set_cons_succ, i64_w, i32_w]
    rfl
  refine pure_ (i := 4) (N := some 8) (v := ?_) (a' := ?_) #[true, true, true, false, true, false, false, false, false, false, false, false, false, false] rfl rfl (by kernel_rfl) (fun _ _ _ h => h) (Or.inl ⟨by rfl, ?_⟩) ?_ ?_
  rotate_left
  · intro w'
    go_simp
    with_reducible rfl
  rotate_left
  · simp only [Act.put, List.setIfInBounds_toArray, List.set_cons_zero, List.set_cons_succ, i64_w, i32_w]
    rfl
  refine pure_ (i := 5) (N := some 9) (v := ?_) (a' := ?_) #[true, true, true, false, true, true, false, false, false, false, false, false, false, false] rfl rfl (by kernel_rfl) (fun _ _ _ h => h) (Or.inl ⟨by rfl, ?_⟩) ?_ ?_
  rotate_left
  · intro w'
    go_simp
    with_reducible rfl
  rotate_left
  · simp only [Act.put, List.setIfInBounds_toArray, List.set_cons_zero, List.set_cons_succ, i64_w, i32_w]
    rfl
  refine pure_ (i := 6) (N := some 10) (v := ?_) (a' := ?_) #[true, true, true, false, true, true, true, false, false, false, false, false, false, false] rfl rfl (by kernel_rfl) (fun _ _ _ h => h) (Or.inl ⟨by rfl, ?_⟩) ?_ ?_
  rotate_left
  · intro w'
    go_simp
    with_reducible rfl
  rotate_left
  · simp only [Act.put, List.setIfInBounds_toArray, List.set_cons_zero, List.set_cons_succ, i64_w, i32_w]
    rfl
  refine take_ (i := 3) (N := some 7) (v := ?_) (a' := ?_) #[true, true, true, true, true, true, true, false, false, false, false, false, false, false] rfl rfl (by kernel_rfl) (fun _ _ _ h => h) (Or.inl ⟨by rfl, ?_⟩) hHeld ?_ ?_
  rotate_left
  · rintro w' ⟨s0, s1⟩
    go_simp
    with_reducible rfl
  rotate_left
  · simp only [Act.put, List.setIfInBounds_toArray, List.set_cons_zero, List.set_cons_succ, i64_w, i32_w]
    rfl
  refine take_ (i := 7) (N := some 11) (v := ?_) (a' := ?_) #[true, true, true, true, true, true, true, true, false, false, false, false, false, false] rfl rfl (by kernel_rfl) (fun _ _ _ h => h) (Or.inl ⟨by rfl, ?_⟩) hHeld ?_ ?_
  rotate_left
  · rintro w' ⟨s0, s1⟩
    go_simp
    with_reducible rfl
  rotate_left
  · simp only [Act.put, List.setIfInBounds_toArray, List.set_cons_zero, List.set_cons_succ, i64_w, i32_w]
    rfl
  refine pure_ (i := 8) (N := some 12) (v := ?_) (a' := ?_) #[true, true, true, true, true, true, true, true, true, false, false, false, false, false] rfl rfl (by kernel_rfl) (fun _ _ _ h => h) (Or.inl ⟨by rfl, ?_⟩) ?_ ?_
  rotate_left
  · intro w'
    go_simp
    with_reducible rfl
  rotate_left
  · simp only [Act.put, List.setIfInBounds_toArray, List.set_cons_zero, List.set_cons_succ, i64_w, i32_w]
    rfl
  refine pure_ (i := 9) (N := some 13) (v := ?_) (a' := ?_) #[true, true, true, true, true, true, true, true, true, true, false, false, false, false] rfl rfl (by kernel_rfl) (fun _ _ _ h => h) (Or.inl ⟨by rfl, ?_⟩) ?_ ?_
  rotate_left
  · intro w'
    go_simp
    with_reducible rfl
  rotate_left
  · simp only [Act.put, List.setIfInBounds_toArray, List.set_cons_zero, List.set_cons_succ, i64_w, i32_w]
    rfl
  refine pure_ (i := 10) (N := some 14) (v := ?_) (a' := ?_) #[true, true, true, true, true, true, true, true, true, true, true, false, false, false] rfl rfl (by kernel_rfl) (fun _ _ _ h => h) (Or.inl ⟨by rfl, ?_⟩) ?_ ?_
  rotate_left
  · intro w'
    go_simp
    with_reducible rfl
  rotate_left
  · simp only [Act.put, List.setIfInBounds_toArray, List.set_cons_zero, List.set_cons_succ, i64_w, i32_w]
    rfl
  refine take_ (i := 11) (N := some 15) (v := ?_) (a' := ?_) #[true, true, true, true, true, true, true, true, true, true, true, true, false, false] rfl rfl (by kernel_rfl) (fun _ _ _ h => h) (Or.inl ⟨by rfl, ?_⟩) hHeld ?_ ?_
  rotate_left
  · rintro w' ⟨s0, s1⟩
    go_simp
    with_reducible rfl
  rotate_left
  · simp only [Act.put, List.setIfInBounds_toArray, List.set_cons_zero, List.set_cons_succ, i64_w, i32_w]
    rfl
  refine pure_ (i := 12) (N := some 16) (v := ?_) (a' := ?_) #[true, true, true, true, true, true, true, true, true, true, true, true, true, false] rfl rfl (by kernel_rfl) (fun _ _ _ h => h) (Or.inl ⟨by rfl, ?_⟩) ?_ ?_
  rotate_left
  · intro w'
    go_simp
    with_reducible rfl
  rotate_left
  · simp only [Act.put, List.setIfInBounds_toArray, List.set_cons_zero, List.set_cons_succ, i64_w, i32_w]
    rfl
  refine last_ (i := 13) (N := none) #[true, true, true, true, true, true, true, true, true, true, true, true, true, true] rfl rfl (by kernel_rfl) (by decide) (fun K hK => ?_)
  refine skip_ (w1 := ?_) (by rfl) rfl ?_ ?_
  rotate_left
  · go_simp
    rfl
  refine hK.out _ _ ?_
  clear hK K
  refine done_ (by kernel_rfl) ?_
  go_wp2
  obtain ⟨w2, hw2⟩ : ∃ w2, (wa.setCell ⟨w.heap.size, 4, none⟩ (.int .i64 (lastOf op))).drew = w2 := ⟨_, rfl⟩
  rw [hw2]
  have hlow : Below w.heap.size w w2 := by rw [← hw2]; exact (HLA.out.setCell (Nat.le_refl _) _).drew
  have hg : w2.heap[w.heap.size]? = some (.cells #[.int .i64 k, .string nm, .string tx, .slice va1 ats.length va2, .int .i64 (lastOf op)] 38 (0, 0)) := by
    rw [← hw2]; exact blk_set (t := 38) (cs := #[.int .i64 k, .string nm, .string tx, .slice va1 ats.length va2, .int .i64 p]) HGA.out 4 _
  clear cb' hx' z4 fz HGA HLA hHeld
  have HG := Aside0.mk hg
  have HLow := Aside0.mk hlow
  have HI2 := Aside0.mk (HI.out.below hlow)
  have HV2 := Aside0.mk (Kd.R_below HV.out hlow)
  have HB2 := Aside0.mk (HB.out.trans (hlow.mono HB.out.size))
  obtain ⟨g, hgg⟩ : ∃ g, w.heap.size = g := ⟨_, rfl⟩
  rw [hgg] at HG ⊢
  have HGE := Aside0.mk (show w0.heap.size ≤ g by rw [← hgg]; exact HB.out.size)
  have HNE := Aside0.mk (show ∀ v0 : Value × Value, w2.heap[b]? = some (.cells #[v0.1, v0.2] 62 (0, 0)) → some g ≠ v0.1.ownBlock by
    rintro ⟨x0, x1⟩ h e
    obtain ⟨_, y0, y1, h1, h2, _⟩ := HI.out
    have h1' := (hlow.block b (blk_lt h1)).trans h1
    rw [h] at h1'
    have e2 : x0 = y0 := by injection h1' with h1'; injection h1' with h1'; exact Option.some.inj (congrArg (fun a : Array Value => a[0]?) h1')
    subst e2
    have := Kd.S_lt h2 g e.symm
    omega)
  clear hw2 hlow hg HI HV HB hgg
  obtain ⟨hb0, v0, v1, hb1, hs, hr⟩ := HI2.out
  have HB1 := Aside0.mk hb1
  have HS := Aside0.mk hs
  have HR := Aside0.mk hr
  have HB0 := Aside0.mk hb0
  have c0 : w2.cell? ⟨b, 0, none⟩ = some v0 := (blk_cell hb1 0).trans rfl
  have d0 : w2.cell? ⟨g, 0, none⟩ = some (.int .i64 k) := (blk_cell HG.out 0).trans rfl
  have d1 : w2.cell? ⟨g, 1, none⟩ = some (.string nm) := (blk_cell HG.out 1).trans rfl
  have d2 : w2.cell? ⟨g, 2, none⟩ = some (.string tx) := (blk_cell HG.out 2).trans rfl
  have d3 : w2.cell? ⟨g, 3, none⟩ = some (.slice va1 ats.length va2) := (blk_cell HG.out 3).trans rfl
  have d4 : w2.cell? ⟨g, 4, none⟩ = some (.int .i64 (lastOf op)) := (blk_cell HG.out 4).trans rfl
  have HN0 := Aside0.mk (HNE.out (v0, v1) hb1)
  have HBV := Aside0.mk (show some b ≠ v0.ownBlock from Kd.S_ne hs hb1 (by decide))
  clear hb0 hb1 hs hr HI2 HNE
  refine start_ (n := 11) (S := fun w' => w'.cell? ⟨b, 0, none⟩ = some v0 ∧ w'.cell? ⟨g, 0, none⟩ = some (.int .i64 k) ∧ w'.cell? ⟨g, 1, none⟩ = some (.string nm) ∧ w'.cell? ⟨g, 2, none⟩ = some (.string tx) ∧ w'.cell? ⟨g, 3, none⟩ = some (.slice va1 ats.length va2) ∧ w'.cell? ⟨g, 4, none⟩ = some (.int .i64 (lastOf op))) (ds := [10]) #[false, false, false, false, false, false, false, false, false, false, false] (by kernel_rfl) rfl rfl ⟨c0, d0, d1, d2, d3, d4⟩ (fun hHeld => ?_)
  refine pure_ (i := 0) (N := some 17) (v := ?_) (a' := ?_) #[true, false, false, false, false, false, false, false, false, false, false] rfl rfl (by kernel_rfl) (fun _ _ _ h => h) (Or.inl ⟨by rfl, ?_⟩) ?_ ?_
  rotate_left
  · intro w'
    go_simp
    with_reducible rfl
  rotate_left
  · simp only [Act.put, List.setIfInBounds_toArray, List.set_cons_zero, List.set_cons_succ, i64_w, i32_w]
    rfl
  refine pure_ (i := 1) (N := some 18) (v := ?_) (a' := ?_) #[true, true, false, false, false, false, false, false, false, false, false] rfl rfl (by kernel_rfl) (fun _ _ _ h => h) (Or.inl ⟨by rfl, ?_⟩) ?_ ?_
  rotate_left
  · intro w'
    go_simp
    with_reducible rfl
  rotate_left
  · simp only [Act.put, List.setIfInBounds_toArray, List.set_cons_zero, List.set_cons_succ, i64_w, i32_w]
    rfl
  refine pure_ (i := 2) (N := some 19) (v := ?_) (a' := ?_) #[true, true, true, false, false, false, false, false, false, false, false] rfl rfl (by kernel_rfl) (fun _ _ _ h => h) (Or.inl ⟨by rfl, ?_⟩) ?_ ?_
  rotate_left
  · intro w'
    go_simp
    with_reducible rfl
  rotate_left
  · simp only [Act.put, List.setIfInBounds_toArray, List.set_cons_zero, List.set_cons_succ, i64_w, i32_w]
    rfl
  refine pure_ (i := 3) (N := some 20) (v := ?_) (a' := ?_) #[true, true, true, true, false, false, false, false, false, false, false] rfl rfl (by kernel_rfl) (fun _ _ _ h => h) (Or.inl ⟨by rfl, ?_⟩) ?_ ?_
  rotate_left
  · intro w'
    go_simp
    with_reducible rfl
  rotate_left
  · simp only [Act.put, List.setIfInBounds_toArray, List.set_cons_zero, List.set_cons_succ, i64_w, i32_w]
    rfl
  refine take_ (i := 4) (N := some 21) (v := ?_) (a' := ?_) #[true, true, true, true, true, false, false, false, false, false, false] rfl rfl (by kernel_rfl) (fun _ _ _ h => h) (Or.inl ⟨by rfl, ?_⟩) hHeld ?_ ?_
  rotate_left
  · rintro w' ⟨s0, s1, s2, s3, s4, s5⟩
    go_simp
    with_reducible rfl
  rotate_left
  · simp only [Act.put, List.setIfInBounds_toArray, List.set_cons_zero, List.set_cons_succ, i64_w, i32_w]
    rfl
  refine take_ (i := 5) (N := some 22) (v := ?_) (a' := ?_) #[true, true, true, true, true, true, false, false, false, false, false] rfl rfl (by kernel_rfl) (fun _ _ _ h => h) (Or.inl ⟨by rfl, ?_⟩) hHeld ?_ ?_
  rotate_left
  · rintro w' ⟨s0, s1, s2, s3, s4, s5⟩
    go_simp
    with_reducible rfl
  rotate_left
  · simp only [Act.put, List.setIfInBounds_toArray, List.set_cons_zero, List.set_cons_succ, i64_w, i32_w]
    rfl
  refine one_ (i := 6) (N := some 23) #[true, true, true, true, true, true, true, false, false, false, false] rfl rfl (by kernel_rfl) (by decide) (fun K hK => ?_)
  refine value_ (w1 := ?_) (v := ?_) (by rfl) rfl ?_ ?_
  rotate_left 2
  · go_simp
    constructor
    · rfl
    · rfl
  refine hK.out _ _ ⟨(cell_alloc (w := w2.drew) c0 _), (cell_alloc (w := w2.drew) d0 _), (cell_alloc (w := w2.drew) d1 _), (cell_alloc (w := w2.drew) d2 _), (cell_alloc (w := w2.drew) d3 _), (cell_alloc (w := w2.drew) d4 _)⟩ (fun hHeld => ?_)
  clear hK K
  refine norm_ (a' := ?_) ?_ ?_
  rotate_left
  · show Act.put _ (some 23) _ = _
    simp only [Act.put, List.setIfInBounds_toArray, List.set_cons_zero, List.set_cons_succ, i64_w, i32_w]
    rfl
  refine one_ (i := 7) (N := some 24) #[true, true, true, true, true, true, true, true, false, false, false] rfl rfl (by kernel_rfl) (by decide) (fun K hK => ?_)
  refine Kd.S_append_step k38 (w0 := w0) (W := w2.drew) w0.heap.size (by rfl) (.tmp 21) (.tmp 23) 24 38 (.agg #[(.int .i64 0), (.string ⟨#[]⟩), (.string ⟨#[]⟩), (.slice none 0 0), (.int .i64 0)]) 72 (by rfl) Try.underlying24 infoNode (by rfl) (by decide) (by decide) v0 ns ⟨k, nm, tx, ats, lastOf op⟩ [.int .i64 k, .string nm, .string tx, .slice va1 ats.length va2, .int .i64 (lastOf op)] (fun _ => True) okp (by rfl) (by rfl) (k38_mkM _ _ _ (⟨k, nm, tx, ats, lastOf op⟩ : S38) (Kd.R_drew HV2.out)) (fun q hq => ⟨trivial, fun e => (Kd.S_R HS.out).1 q e.symm hq⟩) (fun _ _ => trivial) (Kd.S_mono (Kd.S_drew HS.out) (fun _ h => ⟨trivial, h⟩)) (below_drew HB2.out) (below_drew HB2.out).size (by omega) ?_
  intro v9 w9 hS9 hB9 hgr hat
  obtain ⟨A9, c9, e9⟩ := Kd.S_slice hS9
  rw [List.length_append, List.length_singleton] at e9
  subst e9
  have b9 : w9.heap[b]? = some (.cells #[v0, v1] 62 (0, 0)) := blk_grown (w := w2.drew) HB1.out hgr HBV.out
  have c9' : w9.cell? ⟨b, 0, none⟩ = some v0 := (blk_cell b9 0).trans rfl
  have f9 : w9.frozen? ⟨b, 0, none⟩ = false := blk_frozen b9 0
  refine hK.out _ _ ⟨c9', (grown_cell (w := w2.drew) hgr HG.out HN0.out 0), (grown_cell (w := w2.drew) hgr HG.out HN0.out 1), (grown_cell (w := w2.drew) hgr HG.out HN0.out 2), (grown_cell (w := w2.drew) hgr HG.out HN0.out 3), (grown_cell (w := w2.drew) hgr HG.out HN0.out 4)⟩ (fun hHeld => ?_)
  clear hK K
  refine norm_ (a' := ?_) ?_ ?_
  rotate_left
  · show Act.put _ (some 24) _ = _
    simp only [Act.put, List.setIfInBounds_toArray, List.set_cons_zero, List.set_cons_succ, i64_w, i32_w]
    rfl
  refine pure_ (i := 8) (N := some 25) (v := ?_) (a' := ?_) #[true, true, true, true, true, true, true, true, true, false, false] rfl rfl (by kernel_rfl) (fun _ _ _ h => h) (Or.inl ⟨by rfl, ?_⟩) ?_ ?_
  rotate_left
  · intro w'
    go_simp
    with_reducible rfl
  rotate_left
  · simp only [Act.put, List.setIfInBounds_toArray, List.set_cons_zero, List.set_cons_succ, i64_w, i32_w]
    rfl
  refine pure_ (i := 9) (N := some 26) (v := ?_) (a' := ?_) #[true, true, true, true, true, true, true, true, true, true, false] rfl rfl (by kernel_rfl) (fun _ _ _ h => h) (Or.inl ⟨by rfl, ?_⟩) ?_ ?_
  rotate_left
  · intro w'
    go_simp
    with_reducible rfl
  rotate_left
  · simp only [Act.put, List.setIfInBounds_toArray, List.set_cons_zero, List.set_cons_succ, i64_w, i32_w]
    rfl
  refine last_ (i := 10) (N := none) #[true, true, true, true, true, true, true, true, true, true, true] rfl rfl (by kernel_rfl) (by decide) (fun K hK => ?_)
  refine skip_ (w1 := ?_) (by rfl) rfl ?_ ?_
  rotate_left
  · go_simp
    rfl
  refine hK.out _ _ ?_
  clear hK K
  refine done_ (by kernel_rfl) ?_
  go_end0
  refine ⟨rfl, ⟨HB0.out, _, v1, blk_set b9 0 _, Kd.S_set hS9 b9 (by decide) 0 _, Kd.R_set (Kd.R_over' (Kd.R_drew HR.out) (fun q hq => Kd.S_typed HS.out q hq) (by decide) hgr) b9 (by decide) 0 _⟩, hB9.setCell HB0.out _, fun i cs e h n1 n2 n3 => ?_⟩
  have h2 := (HLow.out.block i (blk_lt h)).trans h
  exact ((Below.heap_setCell w9 ⟨b, 0, none⟩ _ i (fun q => blk_ne h2 HB1.out n2 q)).trans (hgr.block i (blk_lt h2) (ne_typed (w := w2) h2 (fun q hq => Kd.S_typed HS.out q hq) n1))).trans (h2.trans h.symm)
end Go.Proofs.Ytkhgnaakcaghjaa.Tr
