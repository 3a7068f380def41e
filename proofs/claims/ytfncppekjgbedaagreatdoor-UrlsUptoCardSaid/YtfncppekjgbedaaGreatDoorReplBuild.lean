/- strings.Replacer at the three breaks: build, walked. -/
import Derived.Test.YtfncppekjgbedaaGreatDoorRepl
namespace Go.Proofs.YtfncppekjgbedaaGreatDoor.Sync
open Go.RowKit Go.Lib Go.Proofs.YtfncppekjgbedaaGreatDoorW.PrintWords Go.Proofs.YtfncppekjgbedaaGreatDoorW.PrintLast Go.Proofs.YtfncppekjgbedaaGreatDoorW.PrintMore
set_option linter.unusedVariables false
set_option linter.unusedSimpArgs false

/-- One round's end: the row put, the byte marked. -/
theorem rep_round {B c o k : Nat} {D : List Nat} {v v1 : Value} {xs1 : List ByteArray} {W w1 w2 : World} {a : Addr} (hA : RepBlk c D v W) (hR : Kd.R Kd.string 9 W B (fun _ => True) v xs1) {xs2 : List ByteArray}
    (h2 : Kd.R Kd.string 9 w1 B (fun _ => True) v1 xs2) (hg : W.grownBy w1 v.ownBlock) (hb : Below (w1.setCell ⟨c, 256, none⟩ v1).heap.size (w1.setCell ⟨c, 256, none⟩ v1) w2) (ho : o < 256) :
    RepBlk c (o :: D) v1 (w2.setCell ⟨c, o, none⟩ (.slice (some a) 0 k)) ∧ Kd.R Kd.string 9 (w2.setCell ⟨c, o, none⟩ (.slice (some a) 0 k)) B (fun _ => True) v1 xs2 := by
  obtain ⟨cs, e1, e2⟩ := hA
  have hne : some c ≠ v.ownBlock := Kd.R_ne hR e1 (by decide)
  have hA1 : RepBlk c D v w1 := RepBlk.grown ⟨cs, e1, e2⟩ hg hne
  obtain ⟨cs1, f1, f2⟩ := hA1
  have hP : RepBlk c D v1 (w1.setCell ⟨c, 256, none⟩ v1) := RepBlk.put ⟨cs1, f1, f2⟩ v1
  have hR1 := Kd.R_set h2 f1 (by decide) 256 v1
  have hP2 := hP.below hb
  have hR2 := Kd.R_below hR1 hb
  obtain ⟨cs2, g1, g2⟩ := hP2
  exact ⟨RepBlk.mark ⟨cs2, g1, g2⟩ ho, Kd.R_set hR2 g1 (by decide) o _⟩
theorem rep_ne {B c : Nat} {D : List Nat} {v : Value} {xs : List ByteArray} {w : World} (h : RepBlk c D v w) (hR : Kd.R Kd.string 9 w B (fun _ => True) v xs) : some c ≠ v.ownBlock := by
  obtain ⟨cs, e1, _⟩ := h
  exact Kd.R_ne hR e1 (by decide)
theorem conv_empty (w : World) : ∃ k w1, (convert 9 30 (.string ⟨#[]⟩)).run Tryz.prog w = .ok (.slice (some ⟨w.heap.size, 0, none⟩) 0 k) w1 ∧ Below w.heap.size w w1 := by
  have h := run_bytes_of_string (P := Tryz.prog) w 9 30 5 ⟨#[]⟩ Tryz.underlying9 Tryz.underlying30 Tryz.underlying5
  exact ⟨_, _, h, Below.alloc (below_drew (Below.refl _ _)) (Nat.le_refl _) _⟩
set_option maxRecDepth 100000 in
set_option maxHeartbeats 3200000 in
theorem build_calls (b g cap : Nat) (w : World) (h4 : w.cell? ⟨b, 4, none⟩ = some (.slice (some ⟨g, 0, none⟩) 6 cap))
    (g0 : w.cell? ⟨g, 0, none⟩ = some (.string ⟨#[9]⟩)) (g1 : w.cell? ⟨g, 1, none⟩ = some (.string ⟨#[]⟩)) (g2 : w.cell? ⟨g, 2, none⟩ = some (.string ⟨#[10]⟩)) (g3 : w.cell? ⟨g, 3, none⟩ = some (.string ⟨#[]⟩)) (g4 : w.cell? ⟨g, 4, none⟩ = some (.string ⟨#[13]⟩)) (g5 : w.cell? ⟨g, 5, none⟩ = some (.string ⟨#[]⟩)) :
    Calls Tryz.prog 45 #[.pointer (some ⟨b, 0, none⟩)] w fun e w' => (∃ c v, e = .returned (.iface 94 (.pointer (some ⟨c, 0, none⟩))) ∧ RepBlk c (goneB 3) v w' ∧ Kd.R Kd.string 9 w' w.heap.size (fun _ => True) v (gone 3)) ∧ Below w.heap.size w w' := by
  obtain ⟨w1, hmk, hown, hgr⟩ := make3 w
  have HO := Aside0.mk hown
  have HG := Aside0.mk hgr
  clear hown hgr
  go_enter Tryz.func45, Tryz.ntmps45
  go_wp2
  go_rounds 4
  rw [store_rep w1 (.slice (some ⟨w.heap.size, 0, none⟩) 0 3) rfl]
  clear hmk
  simp only [Result.andThen]
  rw [Oper.upon_skip]
  go_wp2
  have HI := Aside0.mk (rep_init w1 (.slice (some ⟨w.heap.size, 0, none⟩) 0 3))
  have HB := Aside0.mk (((Below.refl _ w).grown HG.out (Nat.le_refl _) (fun k h => by cases h)).alloc HG.out.size (.cells (Tryz.zeroCells93.setIfInBounds 256 (.slice (some ⟨w.heap.size, 0, none⟩) 0 3)) 93))
  have HR := Aside0.mk (Kd.R_alloc HO.out (.cells (Tryz.zeroCells93.setIfInBounds 256 (.slice (some ⟨w.heap.size, 0, none⟩) 0 3)) 93))
  have HC := Aside0.mk HG.out.size
  obtain ⟨c, hc⟩ : ∃ c, w1.heap.size = c := ⟨_, rfl⟩
  rw [hc] at HI HC ⊢
  clear HO HG
  go_loopw [12] (fun i wr => ∃ (n : Nat) (v : Value), n ≤ 3 ∧ i = .int .i64 (4 - 2 * (n : Int)) ∧ Aside0 (RepBlk c (goneB n) v wr) ∧ Aside0 (Kd.R Kd.string 9 wr w.heap.size (fun _ => True) v (gone n)) ∧ Aside0 (Below w.heap.size w wr))
    (fun i _ => (RowKit.intOf i + 2).toNat)
  case atStart => exact ⟨0, _, by decide, rfl, HI, HR, HB⟩
  case round =>
    clear HI HR HB
    obtain ⟨n, v, hn, rfl, HI, HR, HB⟩ := hrel
    have hgl : g < w.heap.size := World.block_lt_of_cell? _ _ g0
    have q0 := pw_cell_below HB.out g0
    have q1 := pw_cell_below HB.out g1
    have q2 := pw_cell_below HB.out g2
    have q3 := pw_cell_below HB.out g3
    have q4 := pw_cell_below HB.out g4
    have q5 := pw_cell_below HB.out g5
    clear g0 g1 g2 g3 g4 g5 h4 hgl
    have hnn := fun w => Lib.run_eql_slice_nil_nil (P := Tryz.prog) w (t := 30) 0 0 Tryz.underlying30
    rcases n with _ | _ | _ | _ | n
    · have k0 := HI.out.cell 13 (by decide) (by decide)
      have k1 := HI.out.row
      have b13 : ∀ h : 0 < (⟨#[13]⟩ : ByteArray).size, ((⟨#[13]⟩ : ByteArray)[0]'h).toNat = 13 := fun _ => rfl
      have hcv : ∀ w : World, (convert 30 9 (.slice (some ⟨w.heap.size, 0, none⟩) 1 1)).run Tryz.prog (w.alloc (.cells #[.int .u8 13] 5)) = .ok (.string ⟨#[13]⟩) (w.alloc (.cells #[.int .u8 13] 5)) := fun w => conv_one w 13
      have HNE := Aside0.mk (rep_ne HI.out HR.out)
      have HR2 := Aside0.mk (Kd.R_alloc HR.out (.cells #[.int .u8 13] 5))
      have HI2 := Aside0.mk (HI.out.below (below_alloc (Below.refl _ _) (.cells #[.int .u8 13] 5)))
      have HB2 := Aside0.mk (HB.out.alloc HB.out.size (.cells #[.int .u8 13] 5))
      go_wp2_with (at_builtin; refine Kd.R_append Kd.string (w0 := w) (W := wr.alloc (.cells #[.int .u8 13] 5)) w.heap.size rfl (.tmp 119) (.tmp 123) 55 9 (.string ⟨#[]⟩) 16 rfl Tryz.underlying55 infoStr rfl (by decide) (by omega) _ (gone 0) ⟨#[13]⟩ [.string ⟨#[13]⟩] (fun _ => True) (fun _ => False) rfl (by rw [World.size_alloc]; rfl) rfl (fun _ h => h.elim) (fun _ _ => trivial) HR2.out HB2.out HB2.out.size (by decide) ?_; intro v9 w9 hR9 hb9 hg9 hat9; obtain ⟨A9, c9, e9⟩ := Kd.R_slice hR9; replace e9 : v9 = .slice A9 1 c9 := e9; subst e9; have HR9 := Aside0.mk hR9; have HB9 := Aside0.mk hb9; have HG9 := Aside0.mk hg9; have HI9 := Aside0.mk (HI2.out.grown hg9 HNE.out); clear hR9 hb9 hg9 hat9; have c256 := HI9.out.row; have z256 := HI9.out.frozen 256; obtain ⟨k5, w5, hcv5, hb5⟩ := conv_empty (w9.setCell ⟨c, 256, none⟩ (.slice A9 1 c9)); have HB5 := Aside0.mk hb5; have c13 := ((HI9.out.put (.slice A9 1 c9)).below hb5).cell 13 (by decide) (by decide); have z13 := ((HI9.out.put (.slice A9 1 c9)).below hb5).frozen 13; clear hb5)
      obtain ⟨q1, q2⟩ := rep_round (o := 13) (k := k5) (a := ⟨w9.heap.size, 0, none⟩) HI2.out HR2.out HR9.out HG9.out HB5.out (by decide)
      exact ⟨⟨1, _, by decide, rfl, ⟨q1⟩, ⟨q2⟩, ⟨((HB9.out.setCell HC.out _).trans (HB5.out.mono (HB9.out.setCell HC.out _).size)).setCell HC.out _⟩⟩, by simp [RowKit.intOf]⟩
    · have k0 := HI.out.cell 10 (by decide) (by decide)
      have k1 := HI.out.row
      have b13 : ∀ h : 0 < (⟨#[10]⟩ : ByteArray).size, ((⟨#[10]⟩ : ByteArray)[0]'h).toNat = 10 := fun _ => rfl
      have hcv : ∀ w : World, (convert 30 9 (.slice (some ⟨w.heap.size, 0, none⟩) 1 1)).run Tryz.prog (w.alloc (.cells #[.int .u8 10] 5)) = .ok (.string ⟨#[10]⟩) (w.alloc (.cells #[.int .u8 10] 5)) := fun w => conv_one w 10
      have HNE := Aside0.mk (rep_ne HI.out HR.out)
      have HR2 := Aside0.mk (Kd.R_alloc HR.out (.cells #[.int .u8 10] 5))
      have HI2 := Aside0.mk (HI.out.below (below_alloc (Below.refl _ _) (.cells #[.int .u8 10] 5)))
      have HB2 := Aside0.mk (HB.out.alloc HB.out.size (.cells #[.int .u8 10] 5))
      go_wp2_with (at_builtin; refine Kd.R_append Kd.string (w0 := w) (W := wr.alloc (.cells #[.int .u8 10] 5)) w.heap.size rfl (.tmp 119) (.tmp 123) 55 9 (.string ⟨#[]⟩) 16 rfl Tryz.underlying55 infoStr rfl (by decide) (by omega) _ (gone 1) ⟨#[10]⟩ [.string ⟨#[10]⟩] (fun _ => True) (fun _ => False) rfl (by rw [World.size_alloc]; rfl) rfl (fun _ h => h.elim) (fun _ _ => trivial) HR2.out HB2.out HB2.out.size (by decide) ?_; intro v9 w9 hR9 hb9 hg9 hat9; obtain ⟨A9, c9, e9⟩ := Kd.R_slice hR9; replace e9 : v9 = .slice A9 2 c9 := e9; subst e9; have HR9 := Aside0.mk hR9; have HB9 := Aside0.mk hb9; have HG9 := Aside0.mk hg9; have HI9 := Aside0.mk (HI2.out.grown hg9 HNE.out); clear hR9 hb9 hg9 hat9; have c256 := HI9.out.row; have z256 := HI9.out.frozen 256; obtain ⟨k5, w5, hcv5, hb5⟩ := conv_empty (w9.setCell ⟨c, 256, none⟩ (.slice A9 2 c9)); have HB5 := Aside0.mk hb5; have c13 := ((HI9.out.put (.slice A9 2 c9)).below hb5).cell 10 (by decide) (by decide); have z13 := ((HI9.out.put (.slice A9 2 c9)).below hb5).frozen 10; clear hb5)
      obtain ⟨q1, q2⟩ := rep_round (o := 10) (k := k5) (a := ⟨w9.heap.size, 0, none⟩) HI2.out HR2.out HR9.out HG9.out HB5.out (by decide)
      exact ⟨⟨2, _, by decide, rfl, ⟨q1⟩, ⟨q2⟩, ⟨((HB9.out.setCell HC.out _).trans (HB5.out.mono (HB9.out.setCell HC.out _).size)).setCell HC.out _⟩⟩, by simp [RowKit.intOf]⟩
    · have k0 := HI.out.cell 9 (by decide) (by decide)
      have k1 := HI.out.row
      have b13 : ∀ h : 0 < (⟨#[9]⟩ : ByteArray).size, ((⟨#[9]⟩ : ByteArray)[0]'h).toNat = 9 := fun _ => rfl
      have hcv : ∀ w : World, (convert 30 9 (.slice (some ⟨w.heap.size, 0, none⟩) 1 1)).run Tryz.prog (w.alloc (.cells #[.int .u8 9] 5)) = .ok (.string ⟨#[9]⟩) (w.alloc (.cells #[.int .u8 9] 5)) := fun w => conv_one w 9
      have HNE := Aside0.mk (rep_ne HI.out HR.out)
      have HR2 := Aside0.mk (Kd.R_alloc HR.out (.cells #[.int .u8 9] 5))
      have HI2 := Aside0.mk (HI.out.below (below_alloc (Below.refl _ _) (.cells #[.int .u8 9] 5)))
      have HB2 := Aside0.mk (HB.out.alloc HB.out.size (.cells #[.int .u8 9] 5))
      go_wp2_with (at_builtin; refine Kd.R_append Kd.string (w0 := w) (W := wr.alloc (.cells #[.int .u8 9] 5)) w.heap.size rfl (.tmp 119) (.tmp 123) 55 9 (.string ⟨#[]⟩) 16 rfl Tryz.underlying55 infoStr rfl (by decide) (by omega) _ (gone 2) ⟨#[9]⟩ [.string ⟨#[9]⟩] (fun _ => True) (fun _ => False) rfl (by rw [World.size_alloc]; rfl) rfl (fun _ h => h.elim) (fun _ _ => trivial) HR2.out HB2.out HB2.out.size (by decide) ?_; intro v9 w9 hR9 hb9 hg9 hat9; obtain ⟨A9, c9, e9⟩ := Kd.R_slice hR9; replace e9 : v9 = .slice A9 3 c9 := e9; subst e9; have HR9 := Aside0.mk hR9; have HB9 := Aside0.mk hb9; have HG9 := Aside0.mk hg9; have HI9 := Aside0.mk (HI2.out.grown hg9 HNE.out); clear hR9 hb9 hg9 hat9; have c256 := HI9.out.row; have z256 := HI9.out.frozen 256; obtain ⟨k5, w5, hcv5, hb5⟩ := conv_empty (w9.setCell ⟨c, 256, none⟩ (.slice A9 3 c9)); have HB5 := Aside0.mk hb5; have c13 := ((HI9.out.put (.slice A9 3 c9)).below hb5).cell 9 (by decide) (by decide); have z13 := ((HI9.out.put (.slice A9 3 c9)).below hb5).frozen 9; clear hb5)
      obtain ⟨q1, q2⟩ := rep_round (o := 9) (k := k5) (a := ⟨w9.heap.size, 0, none⟩) HI2.out HR2.out HR9.out HG9.out HB5.out (by decide)
      exact ⟨⟨3, _, by decide, rfl, ⟨q1⟩, ⟨q2⟩, ⟨((HB9.out.setCell HC.out _).trans (HB5.out.mono (HB9.out.setCell HC.out _).size)).setCell HC.out _⟩⟩, by simp [RowKit.intOf]⟩
    · go_wp2
      go_ret
      exact ⟨⟨c, v, rfl, HI.out, HR.out⟩, HB.out⟩
    · omega
end Go.Proofs.YtfncppekjgbedaaGreatDoor.Sync
