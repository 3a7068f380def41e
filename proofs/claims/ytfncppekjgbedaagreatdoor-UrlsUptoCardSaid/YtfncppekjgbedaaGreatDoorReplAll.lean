/- strings.Replacer at the three breaks: Replace; url.drop. -/
import Derived.Test.YtfncppekjgbedaaGreatDoorReplDo
namespace Go.Proofs.YtfncppekjgbedaaGreatDoor.Sync
open Go.RowKit Go.Lib Go.Proofs.YtfncppekjgbedaaGreatDoorW.PrintWords Go.Proofs.YtfncppekjgbedaaGreatDoorW.PrintLast Go.Proofs.YtfncppekjgbedaaGreatDoorW.PrintMore
set_option linter.unusedVariables false
set_option linter.unusedSimpArgs false

theorem olds_cell {w : World} {g : Nat} (h : Kd.C Kd.string w (some ⟨g, 0, none⟩) 6 olds) (j : Nat) (p : ByteArray) (hj : olds[j]? = some p) : w.cell? ⟨g, j, none⟩ = some (.string p) := by
  obtain ⟨ad, e, h2⟩ := olds_at h j p hj
  cases e
  have e2 : (⟨g, 0, none⟩ : Addr).add j = ⟨g, j, none⟩ := by simp [Addr.add]; intro h; exact h.symm
  rwa [e2] at h2
def AllQ (w0 : World) (b : Nat) (w1 : World) : Prop := ∃ c v, w1.heap[b]? = some (.cells #[.int .u32 0, .int .i32 1, .int .u32 0, .iface 94 (.pointer (some ⟨c, 0, none⟩)), .slice none 0 0] 71 (0, 0)) ∧
      RepBlk c (goneB 3) v w1 ∧ Kd.R Kd.string 9 w1 w0.heap.size (fun _ => True) v (gone 3) ∧ Below w0.heap.size w0 w1
theorem all_after {w0 w1 w2 : World} {b : Nat} (hb0 : w0.heap.size ≤ b) (h : AllQ w0 b w1) (e : w2 = (w1.drew.setCell ⟨b, 0, none⟩ (.int .u32 1)).setCell ⟨b, 1, none⟩ (.int .i32 0)) :
    ∃ c v, w2.cell? ⟨b, 3, none⟩ = some (.iface 94 (.pointer (some ⟨c, 0, none⟩))) ∧ RepBlk c (goneB 3) v w2 ∧ Kd.R Kd.string 9 w2 w0.heap.size (fun _ => True) v (gone 3) ∧ Below w0.heap.size w0 w2 := by
  obtain ⟨c, v, h1, h2, h3, h4⟩ := h
  have h1d : w1.drew.heap[b]? = some (.cells #[.int .u32 0, .int .i32 1, .int .u32 0, .iface 94 (.pointer (some ⟨c, 0, none⟩)), .slice none 0 0] 71 (0, 0)) := h1
  have k1 := Go.Joins.block_setCell (i := 0) h1d (.int .u32 1)
  have k2 := Go.Joins.block_setCell (i := 1) k1 (.int .i32 0)
  have hne : c ≠ b := h2.ne h1 (by decide)
  have h2d : RepBlk c (goneB 3) v w1.drew := h2.below (below_drew (Below.refl _ _))
  subst e
  exact ⟨c, v, (blk_cell k2 3).trans rfl, (h2d.far hne).far hne, Kd.R_set (Kd.R_set (Kd.R_drew h3) h1d (by decide) 0 _) k1 (by decide) 1 _, ((below_drew h4).setCell hb0 _).setCell hb0 _⟩
set_option maxRecDepth 100000 in
set_option maxHeartbeats 3200000 in
theorem replace_calls (b g cap : Nat) (s : ByteArray) (w0 w : World) (hB : Below w0.heap.size w0 w) (hb0 : w0.heap.size ≤ b) (hb : w.heap[b]? = some (.cells #[.int .u32 0, .int .i32 0, .int .u32 0, .nilIface, .slice (some ⟨g, 0, none⟩) 6 cap] 71 (0, 0)))
    (hC : Kd.C Kd.string w (some ⟨g, 0, none⟩) 6 olds) (hne : g ≠ b) (hs : s.size ≤ 140737488355328) :
    Calls Tryz.prog 27 #[.pointer (some ⟨b, 0, none⟩), .string s] w fun e w' => e = .returned (.string (dropS s)) ∧ Below w0.heap.size w0 w' := by
  have hset := (Go.Joins.block_setCell (i := 1) hb (.int .i32 1)).trans (show _ = some (Obj.cells #[.int .u32 0, .int .i32 1, .int .u32 0, .nilIface, .slice (some ⟨g, 0, none⟩) 6 cap] 71 (0, 0)) from rfl)
  have oth : ∀ j p, olds[j]? = some p → (w.setCell ⟨b, 1, none⟩ (.int .i32 1)).cell? ⟨g, j, none⟩ = some (.string p) := fun j p hj =>
    (World.cell?_setCell_other _ _ _ _ (fun e => hne (by injection e with e1; first | exact e1 | exact e1.symm))).trans (olds_cell hC j p hj)
  have HO := Aside0.mk (once_calls b g cap w0 (w.setCell ⟨b, 1, none⟩ (.int .i32 1)) (hB.setCell hb0 _) hb0 hset (oth 0 _ rfl) (oth 1 _ rfl) (oth 2 _ rfl) (oth 3 _ rfl) (oth 4 _ rfl) (oth 5 _ rfl))
  have HDo := Aside0.mk (do_first b w (AllQ w0 b) ((blk_cell hb 0).trans rfl) ((blk_cell hb 1).trans rfl) (blk_frozen hb 1) (HO.out.mono fun e w1 h => by
    obtain ⟨e1, c, v, h1, h2, h3, h4⟩ := h
    exact ⟨e1, (blk_cell h1 0).trans rfl, (blk_cell h1 1).trans rfl, blk_frozen h1 0, blk_frozen h1 1, c, v, h1, h2, h3, h4⟩))
  have HB0 := Aside0.mk hb0
  clear hB hb0 hb hC hne hset oth HO
  go_enter Tryz.func27, Tryz.ntmps27
  go_wp2_with (go_at_call 38; refine HDo.out.mono ?_; rintro e w2 ⟨rfl, w1, hq, g0, g1, hw2⟩; obtain ⟨c, v, h1, h2, h3, h4⟩ := all_after HB0.out hq hw2; clear hq g0 g1 hw2; have HD := Aside0.mk (do_calls c v w0.heap.size s w2 h2 h3 hs); have HB := Aside0.mk h4; clear h2 h3 h4)
  refine HD.out.mono ?_
  rintro e w3 ⟨rfl, hb3⟩
  have HB3 := Aside0.mk (HB.out.trans (hb3.mono HB.out.size))
  clear hb3
  go_wp2
  go_ret
  exact ⟨rfl, HB3.out⟩
def stripL (l : List UInt8) : List UInt8 := l.dropWhile fun b => decide (b.toNat ≤ 32)
def cutS (s : ByteArray) : ByteArray := dropS ⟨(stripL s.data.toList).toArray⟩
theorem tail_data (t : ByteArray) : (t.extract 1 t.size).data.toList = t.data.toList.drop 1 := by
  have : (t.extract 1 t.size).data = t.data.extract 1 t.size := by simp
  rw [this, Array.toList_extract]
  have h : t.data.toList.length = t.size := rfl
  simp [List.extract, List.take_of_length_le, h]
theorem strip_step {t : ByteArray} (h : 0 < t.size) : stripL t.data.toList = if (t[0]'h).toNat ≤ 32 then stripL (t.extract 1 t.size).data.toList else t.data.toList := by
  rw [tail_data]
  have e : t.data.toList = (t[0]'h) :: t.data.toList.drop 1 := by
    have hl : 0 < t.data.toList.length := h
    conv => lhs; rw [← List.drop_zero (l := t.data.toList), List.drop_eq_getElem_cons hl]
    rfl
  conv => lhs; rw [e]
  unfold stripL
  rw [List.dropWhile_cons]
  by_cases hq : (t[0]'h).toNat ≤ 32
  · rw [if_pos hq, if_pos (by simpa using hq)]
  · rw [if_neg hq, if_neg (by simpa using hq), ← e]
set_option maxRecDepth 100000 in
set_option maxHeartbeats 3200000 in
theorem drop_calls (s : ByteArray) (w : World) (hs : s.size ≤ 140737488355328) :
    Calls Tryz.prog 11 #[.string s] w fun e w' => e = .returned (.string (cutS s)) ∧ Below w.heap.size w w' := by
  have HS := Aside0.mk hs
  obtain ⟨u, hu⟩ : ∃ u : ByteArray, ⟨(stripL s.data.toList).toArray⟩ = u := ⟨_, rfl⟩
  have hcut : cutS s = dropS u := by unfold cutS; rw [hu]
  have hul : stripL s.data.toList = u.data.toList := by rw [← hu]
  have hus : u.size ≤ s.size := by
    have h1 : u.size = (stripL s.data.toList).length := by rw [hul]; rfl
    have h2 : (stripL s.data.toList).length ≤ s.data.toList.length := (List.dropWhile_sublist _).length_le
    have h3 : s.data.toList.length = s.size := rfl
    omega
  have HU := Aside0.mk hul
  rw [hcut]
  have HUS := Aside0.mk (show u.size ≤ 140737488355328 by omega)
  clear hs hu hcut hul hus
  go_enter Tryz.func11, Tryz.ntmps11
  go_upto_block 0 with (fail)
  go_cut [0] (fun v0 wc => v0 = .string u ∧ Aside0 (Below w.heap.size w wc))
  case first =>
    go_wp2
    go_loopg [0] s.size (fun gg v0 wr => ∃ t : ByteArray, v0 = .string t ∧ Aside0 (gg = t.size) ∧ Aside0 (stripL t.data.toList = u.data.toList) ∧ Aside0 (Below w.heap.size w wr))
    case atStart => exact ⟨s, rfl, ⟨rfl⟩, HU, ⟨Below.refl _ _⟩⟩
    case round =>
      obtain ⟨t, rfl, HK, HE, HB⟩ := hrel
      by_cases h0 : t.size = 0
      · have ht : t.toList.isEmpty = true := by rw [ByteArray.toList_eq, List.length_eq_zero_iff.1 (show t.data.toList.length = 0 from h0)]; rfl
        have htu : u = t := by
          have h1 : t.data.toList = [] := List.length_eq_zero_iff.1 h0
          have h2 := HE.out
          rw [h1] at h2
          have h3 : u.data.toList = [] := h2.symm
          cases u; cases t; congr; exact Array.toList_inj.1 (h3.trans h1.symm)
        have HTU := Aside0.mk htu
        clear htu h0
        go_wp2
        go_meet
        exact ⟨by rw [HTU.out], HB⟩
      · have h1 : 0 < t.size := by omega
        have ht : t.toList.isEmpty = false := by
          rw [ByteArray.toList_eq]
          cases hq : t.data.toList with
          | nil => exact absurd (show t.size = 0 from (congrArg List.length hq)) h0
          | cons b l => rfl
        have hst := strip_step h1
        by_cases h2 : (t[0]'h1).toNat ≤ 32
        · rw [if_pos h2] at hst
          have HST := Aside0.mk hst
          have hd : decide (((t[0]'h1).toNat : Int) ≤ 32) = true := decide_eq_true (by omega)
          have hl : (t.extract 1 t.size).size = t.size - 1 := by simp
          have HL := Aside0.mk hl
          have H1 := Aside0.mk h1
          clear hst h2 h0 hl
          go_wp2
          go_roundg (t.extract 1 t.size).size
          case rel => exact ⟨_, rfl, ⟨rfl⟩, ⟨HST.out.symm.trans HE.out⟩, HB⟩
          case measure => have := HK.out; have := HL.out; have := H1.out; omega
        · rw [if_neg h2] at hst
          have htu : u = t := by
            have h3 := HE.out
            rw [hst] at h3
            cases u; cases t; congr; exact Array.toList_inj.1 h3.symm
          have HTU := Aside0.mk htu
          have hd : decide (((t[0]'h1).toNat : Int) ≤ 32) = false := decide_eq_false (by omega)
          clear hst h2 h0 htu
          go_wp2
          go_meet
          exact ⟨by rw [HTU.out], HB⟩
  case rest =>
    obtain ⟨rfl, HB⟩ := hcut
    have HN := Aside0.mk (new_calls ⟨wc.heap.size, 0, none⟩ 6 _ (C_olds wc))
    have HB1 := Aside0.mk (HB.out.alloc HB.out.size (.cells #[.string ⟨#[9]⟩, .string ⟨#[]⟩, .string ⟨#[10]⟩, .string ⟨#[]⟩, .string ⟨#[13]⟩, .string ⟨#[]⟩] 9))
    go_wp2_with (first
      | (go_at_call 26; refine HN.out.mono ?_; rintro e w1 ⟨b, g, cap, rfl, k1, k2, k3, k4, k5⟩; have HR := Aside0.mk (replace_calls b g cap u w w1 (HB1.out.trans (k5.mono HB1.out.size)) (Nat.le_trans HB1.out.size k1) k2 k3 k4 HUS.out); clear k1 k2 k3 k4 k5)
      | (go_at_call 27; refine HR.out.mono ?_; rintro e w2 ⟨rfl, hb2⟩))
    go_ret
    exact ⟨rfl, hb2⟩
end Go.Proofs.YtfncppekjgbedaaGreatDoor.Sync
