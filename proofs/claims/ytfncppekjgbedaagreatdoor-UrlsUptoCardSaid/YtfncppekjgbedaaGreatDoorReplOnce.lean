/- strings.Replacer at the three breaks: buildOnce, walked; the replacer's own block. -/
import Derived.Test.YtfncppekjgbedaaGreatDoorReplBuild
namespace Go.Proofs.YtfncppekjgbedaaGreatDoor.Sync
open Go.RowKit Go.Lib Go.Proofs.YtfncppekjgbedaaGreatDoorW.PrintWords Go.Proofs.YtfncppekjgbedaaGreatDoorW.PrintLast Go.Proofs.YtfncppekjgbedaaGreatDoorW.PrintMore
set_option linter.unusedVariables false
set_option linter.unusedSimpArgs false

theorem RepBlk.far {c b j : Nat} {D : List Nat} {v u : Value} {w : World} (h : RepBlk c D v w) (hne : c ≠ b) : RepBlk c D v (w.setCell ⟨b, j, none⟩ u) := by
  obtain ⟨cs, h1, h2⟩ := h
  exact ⟨cs, blk_far h1 (p := ⟨b, j, none⟩) hne u, h2⟩
theorem RepBlk.ne {c b t : Nat} {D : List Nat} {v : Value} {w : World} {cs : Array Value} (h : RepBlk c D v w) (hb : w.heap[b]? = some (.cells cs t (0, 0))) (ht : t ≠ 93) : c ≠ b := by
  obtain ⟨cs', h1, _⟩ := h
  rintro rfl
  rw [hb] at h1
  injection h1 with h1; injection h1 with _ h1
  exact ht h1
set_option maxRecDepth 100000 in
set_option maxHeartbeats 3200000 in
theorem once_calls (b g cap : Nat) (w0 w : World) (hB : Below w0.heap.size w0 w) (hb0 : w0.heap.size ≤ b) (hb : w.heap[b]? = some (.cells #[.int .u32 0, .int .i32 1, .int .u32 0, .nilIface, .slice (some ⟨g, 0, none⟩) 6 cap] 71 (0, 0)))
    (g0 : w.cell? ⟨g, 0, none⟩ = some (.string ⟨#[9]⟩)) (g1 : w.cell? ⟨g, 1, none⟩ = some (.string ⟨#[]⟩)) (g2 : w.cell? ⟨g, 2, none⟩ = some (.string ⟨#[10]⟩)) (g3 : w.cell? ⟨g, 3, none⟩ = some (.string ⟨#[]⟩)) (g4 : w.cell? ⟨g, 4, none⟩ = some (.string ⟨#[13]⟩)) (g5 : w.cell? ⟨g, 5, none⟩ = some (.string ⟨#[]⟩)) :
    Calls Tryz.prog 39 #[.pointer (some ⟨b, 0, none⟩)] w fun e w' => e = .returned (.tuple #[]) ∧ ∃ c v, w'.heap[b]? = some (.cells #[.int .u32 0, .int .i32 1, .int .u32 0, .iface 94 (.pointer (some ⟨c, 0, none⟩)), .slice none 0 0] 71 (0, 0)) ∧
      RepBlk c (goneB 3) v w' ∧ Kd.R Kd.string 9 w' w0.heap.size (fun _ => True) v (gone 3) ∧ Below w0.heap.size w0 w' := by
  have HBc := Aside0.mk (build_calls b g cap w ((blk_cell hb 4).trans rfl) g0 g1 g2 g3 g4 g5)
  have HB := Aside0.mk hB
  have HH := Aside0.mk hb
  have HB0 := Aside0.mk hb0
  clear hB hb g0 g1 g2 g3 g4 g5 hb0
  go_enter Tryz.func39, Tryz.ntmps39
  go_wp2_with (go_at_call 45; refine HBc.out.mono ?_; rintro e w1 ⟨⟨c, v, rfl, hA, hR⟩, hb1⟩; have HA := Aside0.mk hA; have HR := Aside0.mk hR; have H1 := Aside0.mk (blk_below HH.out hb1); have HB1 := Aside0.mk (HB.out.trans (hb1.mono HB.out.size)); clear hA hR hb1; have x3 := (blk_cell H1.out 3).trans rfl; have z3 := blk_frozen H1.out 3; have x4 := (blk_cell H1.out 4).trans rfl; have z4 := blk_frozen H1.out 4)
  go_end0
  have hne : c ≠ b := HA.out.ne H1.out (by decide)
  have h1 := Go.Joins.block_setCell (i := 3) H1.out (.iface 94 (.pointer (some ⟨c, 0, none⟩)))
  exact ⟨rfl, c, v, (Go.Joins.block_setCell (i := 4) h1 (.slice none 0 0)).trans rfl, (HA.out.far hne).far hne, Kd.R_lower (Kd.R_set (Kd.R_set HR.out H1.out (by decide) 3 _) h1 (by decide) 4 _) HB.out.size, (HB1.out.setCell HB0.out _).setCell HB0.out _⟩
def olds : List ByteArray := [⟨#[9]⟩, ⟨#[]⟩, ⟨#[10]⟩, ⟨#[]⟩, ⟨#[13]⟩, ⟨#[]⟩]
theorem C_olds (w : World) : Kd.C Kd.string (w.alloc (.cells #[.string ⟨#[9]⟩, .string ⟨#[]⟩, .string ⟨#[10]⟩, .string ⟨#[]⟩, .string ⟨#[13]⟩, .string ⟨#[]⟩] 9)) (some ⟨w.heap.size, 0, none⟩) 6 olds := by
  have h := heap_alloc_new w (.cells #[.string ⟨#[9]⟩, .string ⟨#[]⟩, .string ⟨#[10]⟩, .string ⟨#[]⟩, .string ⟨#[13]⟩, .string ⟨#[]⟩] 9)
  refine ⟨rfl, by decide, fun _ => ⟨⟨w.heap.size, 0, none⟩, rfl, fun j p hp => ⟨[.string p], rfl, rfl, fun i u hu => ?_⟩⟩⟩
  have hi : i < 1 := (List.getElem?_eq_some_iff.1 hu).1
  obtain rfl : i = 0 := by omega
  obtain rfl : Value.string p = u := by simpa using hu
  have hc : (w.alloc (.cells #[.string ⟨#[9]⟩, .string ⟨#[]⟩, .string ⟨#[10]⟩, .string ⟨#[]⟩, .string ⟨#[13]⟩, .string ⟨#[]⟩] 9)).cell? ⟨w.heap.size, j, none⟩ = (#[Value.string ⟨#[9]⟩, .string ⟨#[]⟩, .string ⟨#[10]⟩, .string ⟨#[]⟩, .string ⟨#[13]⟩, .string ⟨#[]⟩] : Array Value)[j]? := blk_cell h j
  have e : (⟨w.heap.size, 0, none⟩ : Addr).add (j * 1 + 0) = ⟨w.heap.size, j, none⟩ := by simp [Addr.add]; intro h; exact h.symm
  rw [show Kd.sz Kd.string = 1 from rfl, e, hc]
  have hj : j < 6 := (List.getElem?_eq_some_iff.1 hp).1
  obtain rfl | rfl | rfl | rfl | rfl | rfl : j = 0 ∨ j = 1 ∨ j = 2 ∨ j = 3 ∨ j = 4 ∨ j = 5 := by omega
  all_goals (obtain rfl := Option.some.inj hp; rfl)
theorem olds_at {w : World} {A : Option Addr} (h : Kd.C Kd.string w A 6 olds) (j : Nat) (p : ByteArray) (hj : olds[j]? = some p) : ∃ ad, A = some ad ∧ w.cell? (ad.add j) = some (.string p) := by
  obtain ⟨_, _, h3⟩ := h
  obtain ⟨ad, e, h4⟩ := h3 (by decide)
  obtain ⟨c, h5, h6, h7⟩ := h4 j p hj
  refine ⟨ad, e, ?_⟩
  have h8 : c = [.string p] := h6
  subst h8
  have := h7 0 _ rfl
  rwa [show Kd.sz Kd.string = 1 from rfl, Nat.mul_one, Nat.add_zero] at this
set_option maxRecDepth 100000 in
set_option maxHeartbeats 3200000 in
theorem new_calls (a : Addr) (cp : Nat) (w : World) (hC : Kd.C Kd.string w (some a) 6 olds) :
    Calls Tryz.prog 26 #[.slice (some a) 6 cp] w fun e w' => ∃ b g cap, e = .returned (.pointer (some ⟨b, 0, none⟩)) ∧ w.heap.size ≤ b ∧ w'.heap[b]? = some (.cells #[.int .u32 0, .int .i32 0, .int .u32 0, .nilIface, .slice (some ⟨g, 0, none⟩) 6 cap] 71 (0, 0)) ∧
      Kd.C Kd.string w' (some ⟨g, 0, none⟩) 6 olds ∧ g ≠ b ∧ Below w.heap.size w w' := by
  have HC := Aside0.mk hC
  have HB := Aside0.mk (Below.refl w.heap.size w)
  clear hC
  go_enter Tryz.func26, Tryz.ntmps26
  go_wp2_with (at_builtin; refine Kd.R_append_rows Kd.string (w0 := w) w.heap.size rfl (.const (.slice none 0 0)) (.tmp 8) 55 9 (.string ⟨#[]⟩) 16 rfl Tryz.underlying55 infoStr rfl (by decide) (by decide) (.slice none 0 0) [] olds (some a) 6 cp (fun _ => True) (fun _ => False) rfl rfl (Kd.R_nil _ _ _ _ _) HC.out (fun _ _ h => h) (fun _ h => h.elim) (fun _ _ => trivial) HB.out HB.out.size (by decide) ?_; intro v9 w9 hR9 hB9 hgr hat; rw [List.nil_append] at hR9; obtain ⟨g9, c9, e9, _, hlt9, _⟩ := Kd.R_form hR9 (by decide); have HLT9 := Aside0.mk hlt9; clear hlt9; replace e9 : v9 = .slice (some ⟨g9, 0, none⟩) 6 c9 := e9; subst e9; have HR9 := Aside0.mk hR9; have HB9 := Aside0.mk hB9; clear hR9 hB9 hgr hat)
  go_ret
  exact ⟨_, g9, c9, rfl, HB9.out.size, heap_alloc_new w9 _, Kd.C_below (Kd.R_reads' HR9.out).2.2 (below_alloc (Below.refl _ _) _), Nat.ne_of_lt HLT9.out, HB9.out.alloc HB9.out.size _⟩
end Go.Proofs.YtfncppekjgbedaaGreatDoor.Sync
