/- tree.builder's text: walked. -/
import Derived.Test.YtkhgnaakcaghjaaTrBd
namespace Go.Proofs.Ytkhgnaakcaghjaa.Tr
open Go.RowKit Go.Proofs.Ytkhgnaakcaghjaa.XA Go.Proofs.YtkhgnaakcaghjaaW.PrintWords Go.Proofs.YtkhgnaakcaghjaaW.PrintLast Go.Proofs.YtkhgnaakcaghjaaW.PrintMore
attribute [local go_sem ↓] Go.wp_at_zero Go.wp_at_succ
set_option linter.unusedVariables false
set_option linter.unusedSimpArgs false

/-- Node i of a row of one's own: its cells; its text written over. -/
theorem S_at {W : World} {base : Nat} {ok : Nat → Prop} {v : Value} {ns : List S38} (h : Kd.S k38 38 W base ok v ns) (i : Nat) (hi : i < ns.length) :
    ∃ g cap A3 c3, v = .slice (some ⟨g, 0, none⟩) ns.length cap ∧ base ≤ g ∧ g < W.heap.size ∧ (∃ cells, W.heap[g]? = some (.cells cells 38 (0, 0))) ∧
      W.cell? ⟨g, i * 5, none⟩ = some (.int .i64 ns[i].f0) ∧ W.cell? ⟨g, i * 5 + 1, none⟩ = some (.string ns[i].f1) ∧ W.cell? ⟨g, i * 5 + 2, none⟩ = some (.string ns[i].f2) ∧ W.cell? ⟨g, i * 5 + 3, none⟩ = some (.slice A3 ns[i].f3.length c3) ∧ W.cell? ⟨g, i * 5 + 4, none⟩ = some (.int .i64 ns[i].f4) ∧
      (∀ j, W.frozen? ⟨g, i * 5 + j, none⟩ = false) ∧
      ∀ s : ByteArray, Kd.S k38 38 (W.setCell ⟨g, i * 5 + 2, none⟩ (.string s)) base ok v (ns.set i ⟨ns[i].f0, ns[i].f1, s, ns[i].f3, ns[i].f4⟩) ∧ W.grownBy (W.setCell ⟨g, i * 5 + 2, none⟩ (.string s)) (some g) := by
  obtain ⟨g, cap, rfl, hb, hl, hc⟩ := Kd.S_form h (by omega)
  obtain ⟨oki, c, hcl, hM, hcc, hfr, hok, hH⟩ := Kd.S_elem h z38 (i : Int) (by omega) (by omega)
  have hx : ns.getD (i : Int).toNat z38 = ns[i] := by simp [List.getD_eq_getElem?_getD, List.getElem?_eq_getElem hi]
  rw [hx] at hM
  obtain ⟨v3, rfl, hv3⟩ := k38_openM hM
  obtain ⟨A3, c3, rfl, _, _⟩ := Kd.R_reads hv3
  refine ⟨g, cap, A3, c3, rfl, hb, hl, hc, hcc 0 _ rfl, hcc 1 _ rfl, hcc 2 _ rfl, hcc 3 _ rfl, hcc 4 _ rfl, fun j => hfr j, fun s => ?_⟩
  have hS := Kd.S_seg (okg := fun _ => False) (ok := ok) (seg := [.string s]) (j := 2) (x' := (⟨ns[i].f0, ns[i].f1, s, ns[i].f3, ns[i].f4⟩ : S38)) (okp := oki) (Kd.H_mono hH (fun k hk => ⟨hk, fun h => h⟩)) (by omega) (by omega) (show 3 ≤ 5 by decide)
    (k38_mkM _ _ _ (⟨ns[i].f0, ns[i].f1, s, ns[i].f3, ns[i].f4⟩ : S38) hv3) (fun k hk => .inl hk) (fun _ hk => hk.elim)
  exact hS
theorem S_idx {W : World} {base : Nat} {ok : Nat → Prop} {v : Value} {ns : List S38} (h : Kd.S k38 38 W base ok v ns) : ns.length ≤ 9223372036854775807 := by
  obtain ⟨A, c, _, _, hC⟩ := Kd.S_reads h; exact hC.2.1

theorem quiet_drawn {P : Program} {f : FuncId} {args : Array Value} {w : World} {n : Nat} {v : Value} (h : Calls P f args (w.drewN n) fun e w' => e = .returned v ∧ Drawn0 (w.drewN n) w') : Calls P f args (w.drewN n) fun e w'' => e = .returned v ∧ ∃ m, w'' = w.drewN m :=
  h.mono fun _ _ ⟨he, ⟨⟨m, hm⟩⟩⟩ => ⟨he, n + m, by rw [hm, World.drewN_drewN]⟩
theorem quiet_drawn2 {P : Program} {f : FuncId} {args : Array Value} {w : World} {a n : Nat} {v : Value} (h : Calls P f args (w.drewN (a + n)) fun e w' => e = .returned v ∧ Drawn0 (w.drewN (a + n)) w') : Calls P f args (w.drewN (a + n)) fun e w'' => e = .returned v ∧ ∃ m, w'' = w.drewN (a + m) :=
  h.mono fun _ _ ⟨he, ⟨⟨m, hm⟩⟩⟩ => ⟨he, n + m, by rw [hm, World.drewN_drewN, Nat.add_assoc]⟩
theorem Bd.mono {T : Nat} {w : World} {base b : Nat} {ok ok' : Nat → Prop} {ns : List S38} {op : List Int} (h : Bd T w base b ok ns op) (hok : ∀ k, ok k → ok' k) : Bd T w base b ok' ns op := by
  obtain ⟨h0, v0, v1, h1, h2, h3⟩ := h
  exact ⟨h0, v0, v1, h1, Kd.S_mono h2 hok, h3⟩
/-- A text's token. -/
def textF (ns : List S38) (op : List Int) (s : ByteArray) : List S38 :=
  match ns.getLast? with
  | some l => if l.f0 = 2 ∧ l.f4 = lastOf op then ns.set (ns.length - 1) ⟨l.f0, l.f1, l.f2 ++ s, l.f3, l.f4⟩ else if s.toList = [] then ns else ns ++ [⟨2, ⟨#[]⟩, s, [], lastOf op⟩]
  | none => ns

set_option maxHeartbeats 3200000 in
set_option maxRecDepth 100000 in
theorem text_calls (w0 w : World) (b : Nat) (ns : List S38) (op : List Int) (s : ByteArray)
    (hB : Below w0.heap.size w0 w) (hI : Bd 55 w w0.heap.size b (fun _ => True) ns op) (hn : ns ≠ []) (hop : op ≠ []) (hlen : op.length ≤ 4611686018427387904) (hns : ns.length ≤ 4611686018)
    (hsz : ∀ l ∈ ns.getLast?, l.f2.size + s.size ≤ 9223372036854775807) :
    Calls Try.prog 20 #[.pointer (some ⟨b, 0, none⟩), .string s] w fun e w' => e = .returned (.tuple #[]) ∧
      Bd 55 w' w0.heap.size b (fun _ => True) (textF ns op s) op ∧ Below w0.heap.size w0 w' := by
  have HIn := Aside0.mk (fun m => inner_calls (w.drewN m) w0.heap.size b _ ns op (hI.drewN m) hop hlen)
  have HNo := Aside0.mk (fun m => node_calls w0 (w.drewN m) b (fun _ => False) ns op 2 0 ⟨#[]⟩ s (.slice none 0 0) [] (pw_below_drewN hB m) ((hI.drewN m).mono (fun _ _ h => h)) (Kd.R_nil _ _ _ _ _) hop hlen hns)
  obtain ⟨hb0, v0, v1, hb1, hs, hr⟩ := hI
  have hl : 0 < ns.length := List.length_pos_iff.2 hn
  obtain ⟨g, cap, A3, c3, rfl, hg0, hg1, hg2, x0, x1, x2, x3, x4, hf, hst⟩ := S_at hs (ns.length - 1) (by omega)
  obtain ⟨l, hl'⟩ : ∃ l, ns[ns.length - 1]'(by omega) = l := ⟨_, rfl⟩
  rw [hl'] at x0 x1 x2 x3 x4 hst
  have hget : ns.getLast? = some l := by rw [List.getLast?_eq_getElem?, List.getElem?_eq_getElem (by omega), hl']
  have hsz' := hsz l (by rw [hget]; rfl)
  have c0 : w.cell? ⟨b, 0, none⟩ = some (.slice (some ⟨g, 0, none⟩) ns.length cap) := (blk_cell hb1 0).trans rfl
  have HT := Aside0.mk (show textF ns op s = _ by unfold textF; rw [hget])
  have HS := Aside0.mk hs
  have HST := Aside0.mk hst
  have HR := Aside0.mk hr
  have HB := Aside0.mk hB
  have HB0 := Aside0.mk hb0
  have HB1 := Aside0.mk hb1
  have HG0 := Aside0.mk hg0
  have HF := Aside0.mk hf
  obtain ⟨cells, hcells⟩ := hg2
  have HCE := Aside0.mk hcells
  have HNB := Aside0.mk (show g ≠ b from blk_ne hcells hb1 (by decide))
  obtain ⟨j, hj⟩ : ∃ j : Int, (ns.length : Int) - 1 = j := ⟨_, rfl⟩
  have hw : IntKind.i64.wrap ((ns.length : Int) - 1) = j := by rw [← hj]; exact IntWalk.i64_in _ (by omega)
  have p0 : (0 ≤ j) = True := eq_true (by omega)
  have p1 : (j < (ns.length : Int)) = True := eq_true (by omega)
  have hjn : ns.length - 1 = j.toNat := by omega
  rw [hjn] at x0 x1 x2 x3 x4 HST HF
  have hu := Try.underlying38
  clear hs hst hr hB hb0 hb1 hg0 hg1 hcells hf hl' hget hsz hj hn hop hl
  by_cases k2 : l.f0 = 2
  · rw [k2] at x0
    by_cases k4 : l.f4 = lastOf op
    · rw [k4] at x4
      have HT2 := Aside0.mk (HT.out.trans (if_pos ⟨k2, k4⟩))
      clear k2 k4 HT HNo
      go_enter Try.func20, Try.ntmps20
      go_wp2
      go_quiet (fail)
      go_wp2
      go_quiet ((go_at_call 29; exact quiet_drawn2 (HIn.out _)))
      have hf2 := HF.out 2
      go_wp2
      go_end0
      rw [HT2.out, hjn]
      obtain ⟨q1, q2⟩ := HST.out (l.f2 ++ s)
      refine ⟨rfl, ⟨HB0.out, _, v1, blk_far (w := w.drewN _) HB1.out (Ne.symm HNB.out) _, Kd.S_step q1 (fun k _ _ => rfl), Kd.R_set (Kd.R_drewN HR.out _) HCE.out (by decide) _ _⟩, (pw_below_drewN HB.out _).setCell HG0.out _⟩
    · have k4b : (l.f4 == lastOf op) = false := by simpa using k4
      have HT2 := Aside0.mk (HT.out.trans (if_neg (fun h => k4 h.2)))
      clear k4 HT
      by_cases hs : s.toList = []
      · have hse : s.toList.isEmpty = true := by rw [hs]; rfl
        have HT3 := Aside0.mk (HT2.out.trans (if_pos hs))
        clear hs HT2
        go_enter Try.func20, Try.ntmps20
        go_wp2
        go_quiet (fail)
        go_wp2
        go_quiet ((go_at_call 29; exact quiet_drawn2 (HIn.out _)))
        go_wp2
        go_end0
        rw [HT3.out]
        exact ⟨rfl, Bd.drewN ⟨HB0.out, _, v1, HB1.out, HS.out, HR.out⟩ _, pw_below_drewN HB.out _⟩
      · have hse : s.toList.isEmpty = false := by simpa using hs
        have HT3 := Aside0.mk (HT2.out.trans (if_neg hs))
        clear hs HT2
        go_enter Try.func20, Try.ntmps20
        go_wp2
        go_quiet (fail)
        go_wp2
        go_quiet ((go_at_call 29; exact quiet_drawn2 (HIn.out _)))
        go_wp2_with (go_at_call 21; refine (HNo.out _).mono ?_; rintro e w3 ⟨rfl, hbd, hbe⟩)
        go_end0
        rw [HT3.out]
        exact ⟨rfl, hbd, hbe⟩
  · have k2b : (l.f0 == 2) = false := by simpa using k2
    have HT2 := Aside0.mk (HT.out.trans (if_neg (fun h => k2 h.1)))
    clear k2 HT
    by_cases hs : s.toList = []
    · have hse : s.toList.isEmpty = true := by rw [hs]; rfl
      have HT3 := Aside0.mk (HT2.out.trans (if_pos hs))
      clear hs HT2
      go_enter Try.func20, Try.ntmps20
      go_wp2
      go_quiet (fail)
      go_wp2
      go_quiet (fail)
      go_wp2
      go_end0
      rw [HT3.out]
      exact ⟨rfl, Bd.drewN ⟨HB0.out, _, v1, HB1.out, HS.out, HR.out⟩ _, pw_below_drewN HB.out _⟩
    · have hse : s.toList.isEmpty = false := by simpa using hs
      have HT3 := Aside0.mk (HT2.out.trans (if_neg hs))
      clear hs HT2
      go_enter Try.func20, Try.ntmps20
      go_wp2
      go_quiet (fail)
      go_wp2
      go_quiet (fail)
      go_wp2_with (go_at_call 21; refine (HNo.out _).mono ?_; rintro e w3 ⟨rfl, hbd, hbe⟩)
      go_end0
      rw [HT3.out]
      exact ⟨rfl, hbd, hbe⟩
end Go.Proofs.Ytkhgnaakcaghjaa.Tr
