/- How long what comes of a page can be. tok.Tokens: walked. page.Skeleton: walked. tok.Tokens, tree.Build, page.may, page.Skeleton in the print's form. -/
import Derived.Test.YtfmcdlbbbmeolaaGreatDoorU0
import Derived.Test.YtfmcdlbbbmeolaaGreatDoorU14
import Derived.Test.YtfmcdlbbbmeolaaGreatDoorU11
section
namespace Go.Proofs.YtfmcdlbbbmeolaaGreatDoor.Tk
open Go.RowKit Go.Proofs.YtfmcdlbbbmeolaaGreatDoor.XK Go.Proofs.YtfmcdlbbbmeolaaGreatDoorW.PrintWords Go.Proofs.YtfmcdlbbbmeolaaGreatDoorW.PrintLast Go.Proofs.YtfmcdlbbbmeolaaGreatDoorW.PrintMore
open Go.Proofs.YtfmcdlbbbmeolaaGreatDoor.Refs (decL decL_nil decL_plain decL_none decL_some refAt refAt_len)
open Go.Proofs.YtfmcdlbbbmeolaaGreatDoor.Ln (linesB linesL)
open Go.Proofs.YtfmcdlbbbmeolaaGreatDoor.Tr (toks)
set_option linter.unusedVariables false
set_option linter.unusedSimpArgs false
set_option maxRecDepth 100000
theorem decL_le : ∀ (n : Nat) (l : List UInt8), l.length ≤ n → (decL l).length ≤ l.length
  | 0, l, h => by
    have : l = [] := List.length_eq_zero_iff.1 (by omega)
    subst this; rw [decL_nil]; exact Nat.le_refl _
  | n + 1, [], h => by rw [decL_nil]; exact Nat.le_refl _
  | n + 1, c :: l, h => by
    rw [List.length_cons] at h
    cases hr : refAt (c :: l) with
    | none => rw [decL_none c l hr, List.length_cons, List.length_cons]; have := decL_le n l (by omega); omega
    | some p =>
      obtain ⟨x, k⟩ := p
      have hk := refAt_len hr
      by_cases hc : c = 38
      · subst hc
        obtain ⟨k, rfl⟩ : ∃ j, k = j + 1 := ⟨k - 1, by omega⟩
        rw [decL_some l x k hr, List.length_append, List.length_cons]
        have := decL_le n (l.drop k) (by rw [List.length_drop]; omega)
        rw [List.length_drop] at this
        have h3 := hk.2.2
        rw [List.length_cons] at h3
        omega
      · rw [decL_plain c l hc, List.length_cons, List.length_cons]; have := decL_le n l (by omega); omega
theorem textV_le (h : ByteArray) (l : List UInt8) : (textV h (bts l)).size ≤ l.length := by
  have e : (bts l).size = l.length := by have : (bts l).size = (bts l).data.toList.length := rfl
                                         rw [this, bts_data]
  unfold textV
  split
  · omega
  split
  · omega
  · unfold decS
    have e2 : ((⟨(decL (bts l).data.toList).toArray⟩ : ByteArray)).size = (decL (bts l).data.toList).length := by show (decL (bts l).data.toList).toArray.size = _; simp
    rw [e2, bts_data]
    exact decL_le _ l (Nat.le_refl _)
def TokB (n : Nat) (t : S41) : Prop := t.f1.size ≤ 32 ∧ t.f2.size ≤ n ∧ ∀ a ∈ t.f3, a.f0.size ≤ 32
structure Bnd (n : Nat) (m : Mc) : Prop where
  rng : 0 ≤ m.st.pos ∧ m.st.pos ≤ 22
  sz : m.st.name.size ≤ 32 ∧ m.st.held.size ≤ 32 ∧ m.st.attr.size ≤ 32
  nm : ∀ a ∈ m.all, a.f0.size ≤ 32
  len : toks m.out + m.buf.length + m.pnd.length ≤ n
  out : ∀ t ∈ m.out, TokB n t
theorem toks_app (a b : List S41) : toks (a ++ b) = toks a + toks b := by unfold toks; rw [List.map_append, List.sum_append]
theorem toks_txt (h : ByteArray) (b : List UInt8) : toks (txtL h b) ≤ b.length := by
  cases b with
  | nil => exact Nat.le_refl _
  | cons c l => show toks [_] ≤ _; unfold toks; simp only [List.map_cons, List.map_nil, List.sum_cons, List.sum_nil]; exact textV_le h (c :: l)
theorem tokB_mono {n m : Nat} (h : n ≤ m) {t : S41} (ht : TokB n t) : TokB m t := ⟨ht.1, Nat.le_trans ht.2.1 h, ht.2.2⟩
theorem txt_tokB (h : ByteArray) (b : List UInt8) {n : Nat} (hn : b.length ≤ n) : ∀ t ∈ txtL h b, TokB n t := by
  intro t ht
  cases b with
  | nil => cases ht
  | cons c l => simp only [txtL, List.mem_singleton] at ht; subst ht; exact ⟨Nat.zero_le _, Nat.le_trans (textV_le h (c :: l)) hn, fun a ha => (by cases ha)⟩
theorem kept_sub (xs : List S39) (P : ByteArray → Prop) (h : ∀ a ∈ xs, P a.f0) : ∀ a ∈ keptR xs, P a.f0 := by
  have key : ∀ (xs acc : List S39), (∀ a ∈ acc, P a.f0) → (∀ a ∈ xs, P a.f0) → ∀ a ∈ xs.foldl keepA acc, P a.f0 := by
    intro xs
    induction xs with
    | nil => intro acc h _; exact h
    | cons x xs ih =>
      intro acc h h2
      refine ih _ ?_ (fun a ha => h2 a (by simp [ha]))
      intro a ha
      unfold keepA at ha
      split at ha
      · rcases List.mem_append.1 ha with ha | ha
        · exact h a ha
        · simp only [List.mem_singleton] at ha; subst ha; exact h2 x (by simp)
      · exact h a ha
  exact key xs [] (fun a ha => by cases ha) h
theorem bnd_step {n : Nat} {m : Mc} (h : Bnd n m) (c : UInt8) : Bnd (n + 1) (stepM m c) := by
  have t := step_tab m.st c.toNat h.rng.1 h.rng.2
  have hs := t.sz h.sz.1 h.sz.2.1 h.sz.2.2
  have hl := h.len
  have hmono : ∀ x ∈ m.out, TokB (n + 1) x := fun x hx => tokB_mono (Nat.le_succ n) (h.out x hx)
  unfold stepM
  simp only
  obtain ⟨nx, hnx⟩ : ∃ nx, stepS m.st c.toNat = nx := ⟨_, rfl⟩
  rw [hnx] at t hs ⊢
  by_cases c1 : c = 60 ∧ (nx.pos = 1 ∨ nx.pos = 20)
  · rw [if_pos c1]; exact ⟨t.rng, hs, h.nm, by simp only [List.length_append, List.length_cons, List.length_nil]; omega, hmono⟩
  rw [if_neg c1]
  by_cases c2 : c = 62 ∧ endsB m.st = true
  · rw [if_pos c2]
    have ht := toks_txt m.held m.buf
    have hg : toks [tagL m.all m.st] = 0 := by unfold tagL; repeat' split
                                               all_goals rfl
    refine ⟨t.rng, hs, h.nm, ?_, fun x hx => ?_⟩
    · show toks (m.out ++ txtL m.held m.buf ++ [tagL m.all m.st]) + 0 + 0 ≤ _
      rw [toks_app, toks_app, hg]; omega
    · simp only [List.mem_append, List.mem_singleton] at hx
      rcases hx with (hx | hx) | rfl
      · exact hmono x hx
      · exact txt_tokB _ _ (by omega) x hx
      · unfold tagL
        split
        · exact ⟨h.sz.2.1, Nat.zero_le _, fun a ha => (by cases ha)⟩
        split
        · exact ⟨h.sz.1, Nat.zero_le _, fun a ha => (by cases ha)⟩
        · exact ⟨h.sz.1, Nat.zero_le _, kept_sub m.all (fun s => s.size ≤ 32) h.nm⟩
  rw [if_neg c2]
  by_cases c3 : c = 62 ∧ remarksB m.st = true
  · rw [if_pos c3]
    have ht := toks_txt m.held m.buf
    have hc : (comL m.st m.pnd).length ≤ m.pnd.length := by
      unfold comL; split
      · rw [List.length_take, List.length_drop]; omega
      · rw [List.length_drop]; omega
    have hz : (bts (comL m.st m.pnd)).size = (comL m.st m.pnd).length := by have : (bts (comL m.st m.pnd)).size = (bts (comL m.st m.pnd)).data.toList.length := rfl
                                                                            rw [this, bts_data]
    refine ⟨t.rng, hs, h.nm, ?_, fun x hx => ?_⟩
    · show toks (m.out ++ txtL m.held m.buf ++ [_]) + 0 + 0 ≤ _
      rw [toks_app, toks_app]
      have : toks [(⟨3, ⟨#[]⟩, bts (comL m.st m.pnd), [], false⟩ : S41)] = (bts (comL m.st m.pnd)).size := by unfold toks; simp
      rw [this, hz]; omega
    · simp only [List.mem_append, List.mem_singleton] at hx
      rcases hx with (hx | hx) | rfl
      · exact hmono x hx
      · exact txt_tokB _ _ (by omega) x hx
      · exact ⟨Nat.zero_le _, by simp only; omega, fun a ha => (by cases ha)⟩
  rw [if_neg c3]
  refine ⟨t.rng, hs, ?_, by simp only [List.length_append, List.length_cons, List.length_nil]; omega, hmono⟩
  have key : ∀ q : List S39 × Option S39, attM m nx c = q → ∀ a ∈ q.1 ++ q.2.toList, a.f0.size ≤ 32 := by
    intro q hq
    have hnm := h.nm
    unfold Mc.all at hnm
    have hmap : ∀ (f : S39 → S39), (∀ a, (f a).f0 = a.f0 ∨ (f a).f0.size ≤ 32) → ∀ a ∈ m.ats ++ (m.cur.map f).toList, a.f0.size ≤ 32 := by
      intro f hf a ha
      rcases List.mem_append.1 ha with ha | ha
      · exact hnm a (List.mem_append_left _ ha)
      · cases hc : m.cur with
        | none => rw [hc] at ha; cases ha
        | some b =>
          rw [hc] at ha
          simp only [Option.map_some, Option.toList, List.mem_singleton] at ha
          subst ha
          rcases hf b with e | e
          · rw [e]; exact hnm b (List.mem_append_right _ (by rw [hc]; simp))
          · exact e
    unfold attM at hq
    split at hq
    · subst hq; intro a ha; cases ha
    split at hq
    · split at hq
      · subst hq; exact hmap _ (fun _ => .inr hs.2.2)
      · subst hq; intro a ha
        have ha : a ∈ (m.ats ++ m.cur.toList) ++ [(⟨nx.attr, ⟨#[]⟩⟩ : S39)] := ha
        rcases List.mem_append.1 ha with ha | ha
        · exact hnm a ha
        · simp only [List.mem_singleton] at ha; subst ha; exact hs.2.2
    split at hq
    · subst hq; exact hmap _ (fun _ => .inl rfl)
    split at hq
    · subst hq; exact hmap _ (fun _ => .inl rfl)
    · subst hq; exact hnm
  exact key _ rfl
theorem bnd_run (l : List UInt8) : ∀ {n : Nat} {m : Mc}, Bnd n m → Bnd (n + l.length) (runM m l) := by
  induction l with
  | nil => intro n m h; exact h
  | cons c l ih => intro n m h; rw [run_cons, List.length_cons, show n + (l.length + 1) = n + 1 + l.length by omega]; exact ih (bnd_step h c)
theorem bnd_start : Bnd 0 m0 := ⟨by decide, by decide, fun a ha => (by cases ha), Nat.le_refl _, fun t ht => (by cases ht)⟩
theorem toks_bnd (page : List UInt8) : toks (tokensM page).1 ≤ 65536 ∧ ∀ t ∈ (tokensM page).1, TokB 65536 t := by
  unfold tokensM
  split
  · exact ⟨Nat.zero_le _, fun t ht => by cases ht⟩
  · rename_i hl
    have h := bnd_run (linesL page) bnd_start
    have hp := Ln.lines_len page
    have hlen := h.len
    unfold endM
    have key : ∀ b : List UInt8, b.length ≤ (runM m0 (linesL page)).buf.length + (runM m0 (linesL page)).pnd.length → toks ((runM m0 (linesL page)).out ++ txtL (runM m0 (linesL page)).held b) ≤ 65536 ∧ ∀ t ∈ (runM m0 (linesL page)).out ++ txtL (runM m0 (linesL page)).held b, TokB 65536 t := by
      intro b hb
      have ht := toks_txt (runM m0 (linesL page)).held b
      refine ⟨by rw [toks_app]; omega, fun t ht => ?_⟩
      rcases List.mem_append.1 ht with ht | ht
      · exact tokB_mono (by omega) (h.out t ht)
      · exact txt_tokB _ _ (by omega) t ht
    split
    · exact key _ (by rw [List.length_append]; exact Nat.le_refl _)
    · exact key _ (by omega)
end Go.Proofs.YtfmcdlbbbmeolaaGreatDoor.Tk
end
section
namespace Go.Proofs.YtfmcdlbbbmeolaaGreatDoor.Tk
open Go.RowKit Go.Proofs.YtfmcdlbbbmeolaaGreatDoor.XK Go.Proofs.YtfmcdlbbbmeolaaGreatDoorW.PrintWords Go.Proofs.YtfmcdlbbbmeolaaGreatDoorW.PrintLast Go.Proofs.YtfmcdlbbbmeolaaGreatDoorW.PrintMore
open Go.Proofs.YtfmcdlbbbmeolaaGreatDoor.Refs (lowN decL)
open Go.Proofs.YtfmcdlbbbmeolaaGreatDoor.Ln (MaxAt linesB linesL lines_calls)
attribute [local go_sem ↓] Go.wp_at_zero Go.wp_at_succ
set_option linter.unusedVariables false
set_option linter.unusedSimpArgs false
set_option maxRecDepth 100000
theorem lines_sz (s : ByteArray) : (linesB s).size ≤ s.size := by
  have h := Ln.lines_len s.data.toList
  have e1 : (linesB s).size = (linesL s.data.toList).length := by rfl
  have e2 : s.data.toList.length = s.size := rfl
  omega
theorem RdAt.setSt {w : World} {base b g j : Nat} {ok : Nat → Prop} {p : ByteArray} {r : Rd} {cs : Array Value} {u : Value} (h : RdAt w base b ok p r) (hg : w.heap[g]? = some (.cells cs 44 (0, 0))) : RdAt (w.setCell ⟨g, j, none⟩ u) base b ok p r := by
  obtain ⟨hb0, v0, v1, hb1, hS, hR⟩ := h
  exact ⟨hb0, v0, v1, blk_far hb1 (blk_ne hb1 hg (by decide)) _, Kd.S_set hS hg (by decide) j u, Kd.R_set hR hg (by decide) j u⟩
def put6 (w : World) (g : Nat) (s : St) : World := (((((w.setCell ⟨g, 0, none⟩ (.int .i64 s.pos)).setCell ⟨g, 1, none⟩ (.string s.name)).setCell ⟨g, 2, none⟩ (.bool s.fin)).setCell ⟨g, 3, none⟩ (.string s.attr)).setCell ⟨g, 4, none⟩ (.string s.held)).setCell ⟨g, 5, none⟩ (.int .i64 s.read)
theorem RdAt.put6 {w : World} {base b g : Nat} {ok : Nat → Prop} {p : ByteArray} {r : Rd} {cs : Array Value} {s : St} (h : RdAt w base b ok p r) (hg : w.heap[g]? = some (.cells cs 44 (0, 0))) : RdAt (put6 w g s) base b ok p r := by
  unfold Tk.put6
  have h0 := h.setSt (j := 0) (u := .int .i64 s.pos) hg
  have g0 := blk_set hg 0 (.int .i64 s.pos)
  have h1 := h0.setSt (j := 1) (u := .string s.name) g0
  have g1 := blk_set g0 1 (.string s.name)
  have h2 := h1.setSt (j := 2) (u := .bool s.fin) g1
  have g2 := blk_set g1 2 (.bool s.fin)
  have h3 := h2.setSt (j := 3) (u := .string s.attr) g2
  have g3 := blk_set g2 3 (.string s.attr)
  have h4 := h3.setSt (j := 4) (u := .string s.held) g3
  exact h4.setSt (j := 5) (u := .int .i64 s.read) (blk_set g3 4 (.string s.held))
theorem put6_far {w : World} {g k : Nat} {s : St} {o : Obj} (h : w.heap[k]? = some o) (hne : k ≠ g) : (put6 w g s).heap[k]? = some o := by
  unfold put6
  rw [Below.heap_setCell _ ⟨g, 5, none⟩ _ k hne, Below.heap_setCell _ ⟨g, 4, none⟩ _ k hne, Below.heap_setCell _ ⟨g, 3, none⟩ _ k hne, Below.heap_setCell _ ⟨g, 2, none⟩ _ k hne, Below.heap_setCell _ ⟨g, 1, none⟩ _ k hne, Below.heap_setCell _ ⟨g, 0, none⟩ _ k hne]
  exact h
def TokensP (page : ByteArray) (w : World) (e : Ending) (w' : World) : Prop := ∃ v0, e = .returned (.tuple #[v0, .int .i64 (tokensF page).2]) ∧ Kd.S k41 41 w' w.heap.size (fun _ => True) v0 (tokensF page).1 ∧ Below w.heap.size w w'
set_option maxHeartbeats 3200000 in
theorem tokens_calls (page : ByteArray) (m : Int) (w : World) (hm : MaxAt m w) : Calls Tryz.prog 18 #[.string page] w (TokensP page w) := by
  unfold TokensP
  by_cases hl : 65536 < page.size
  · have d : decide ((65536 : Int) < (page.size : Int)) = true := decide_eq_true (by omega)
    rw [show tokensF page = ([], 500) by unfold tokensF; rw [if_pos hl]]
    go_enter Tryz.func18, Tryz.ntmps18
    go_wp2
    go_ret2
    exact ⟨_, rfl, Kd.S_nil _ _ _ _ _, Below.refl _ _⟩
  · have d : decide ((65536 : Int) < (page.size : Int)) = false := decide_eq_false (by omega)
    have HLi := Aside0.mk (lines_calls page m w hm (by omega))
    have hps := lines_sz page
    have HF := Aside0.mk (show tokensF page = _ by unfold tokensF; rw [if_neg hl])
    rw [HF.out]
    obtain ⟨p, hp⟩ : ∃ p, linesB page = p := ⟨_, rfl⟩
    rw [hp] at HLi hps ⊢
    have hp6 : p.size ≤ 65536 := by omega
    have HP6 := Aside0.mk hp6
    have hu40 := Tryz.underlying44
    have HMI := Aside0.mk (mach_inv p)
    clear hl hps HF hp hm hp6
    go_enter Tryz.func18, Tryz.ntmps18
    go_wp2_with (first | (go_at_call 45; refine HLi.out.mono ?_; rintro e w1 ⟨rfl, hb1⟩; have B1 := Aside0.mk hb1; clear hb1) | (go_at_call 46; refine (start_calls _).mono ?_; rintro e w3 ⟨rfl, hb3⟩; have hbk := blk_below (heap_alloc_new w1 (.cells #[.string p, .slice none 0 0, .int .i64 0, .int .i64 0, .string ⟨#[]⟩, .slice none 0 0, .int .i64 0] 85)) hb3; have c0 := cell_alloc (show w3.cell? ⟨w1.heap.size, 0, none⟩ = some (.string p) from (blk_cell hbk 0).trans rfl) (.cells #[.int .i64 (atS 0).pos, .string (atS 0).name, .bool (atS 0).fin, .string (atS 0).attr, .string (atS 0).held, .int .i64 (atS 0).read] 44); have BK := Aside0.mk hbk; have B3 := Aside0.mk hb3; clear hbk hb3))
    have I4 := Aside0.mk (show RdAt (w3.alloc (.cells #[.int .i64 (atS 0).pos, .string (atS 0).name, .bool (atS 0).fin, .string (atS 0).attr, .string (atS 0).held, .int .i64 (atS 0).read] 44)) w.heap.size w1.heap.size (fun _ => True) p rd0 from ⟨B1.out.size, _, _, blk_alloc BK.out _, Kd.S_nil _ _ _ _ _, Kd.R_nil _ _ _ _ _⟩)
    have L13 := (below_alloc (Below.refl w1.heap.size w1) (.cells #[.string p, .slice none 0 0, .int .i64 0, .int .i64 0, .string ⟨#[]⟩, .slice none 0 0, .int .i64 0] 85)).trans (B3.out.mono (by simp))
    have L4 := Aside0.mk (show Below w.heap.size w (w3.alloc (.cells #[.int .i64 (atS 0).pos, .string (atS 0).name, .bool (atS 0).fin, .string (atS 0).attr, .string (atS 0).held, .int .i64 (atS 0).read] 44)) from (B1.out.trans (L13.mono B1.out.size)).alloc (Nat.le_trans B1.out.size L13.size) _)
    have S4 := Aside0.mk (show StAt (w3.alloc (.cells #[.int .i64 (atS 0).pos, .string (atS 0).name, .bool (atS 0).fin, .string (atS 0).attr, .string (atS 0).held, .int .i64 (atS 0).read] 44)) w3.heap.size (atS 0) from heap_alloc_new w3 _)
    have G4 := Aside0.mk (show w.heap.size ≤ w3.heap.size from Nat.le_trans B1.out.size L13.size)
    obtain ⟨b, hb⟩ : ∃ b, w1.heap.size = b := ⟨_, rfl⟩
    obtain ⟨gs, hgs⟩ : ∃ gs, w3.heap.size = gs := ⟨_, rfl⟩
    obtain ⟨w4, hw4⟩ : ∃ w4, w3.alloc (.cells #[.int .i64 (atS 0).pos, .string (atS 0).name, .bool (atS 0).fin, .string (atS 0).attr, .string (atS 0).held, .int .i64 (atS 0).read] 44) = w4 := ⟨_, rfl⟩
    rw [hw4, hb] at I4
    rw [hw4, hgs] at S4
    rw [hw4] at L4
    rw [hgs] at G4
    rw [hw4, hb, hgs]
    clear hb hgs hw4 L13 B3 BK c0 B1 HLi
    go_loopw [21] (fun a wr => ∃ i : Nat, a = .int .i64 (i : Int) ∧ i ≤ p.size ∧ Aside0 (RdAt wr w.heap.size b (fun _ => True) p (mach p i).1) ∧ Aside0 (StAt wr gs (mach p i).2) ∧ Aside0 (Below w.heap.size w wr))
      (fun a _ => p.size - (RowKit.intOf a).toNat)
    case atStart => exact ⟨0, rfl, Nat.zero_le _, I4, S4, L4⟩
    case round =>
      obtain ⟨i, rfl, hi, HI, HS, HB⟩ := hrel
      have hp6 := HP6.out
      by_cases hlt : i < p.size
      · have hIv := HMI.out i hi
        have htb := step_tab (mach p i).2 (byteAt p (i : Int)) hIv.rng.1 hIv.rng.2
        have hAs := hIv.asks htb
        have HE := Aside0.mk (show mach p (i + 1) = (takesR p (mach p i).1 (mach p i).2 (stepS (mach p i).2 (byteAt p (i : Int))) i, stepS (mach p i).2 (byteAt p (i : Int))) from rfl)
        obtain ⟨r, hr⟩ : ∃ r, (mach p i).1 = r := ⟨_, rfl⟩
        obtain ⟨s, hs⟩ : ∃ s, (mach p i).2 = s := ⟨_, rfl⟩
        have hcb : byteAt p (i : Int) < 256 := by unfold byteAt; exact UInt8.toNat_lt _
        have hrun := fun W => byte_run (P := Tryz.prog) 9 p i hlt W Tryz.underlying9
        obtain ⟨c, hc⟩ : ∃ c, byteAt p (i : Int) = c := ⟨_, rfl⟩
        rw [hr, hs, hc] at HE hAs
        rw [hr] at HI
        rw [hs] at HS
        rw [hr, hs] at hIv
        rw [hc] at hrun hcb
        have HSt := Aside0.mk (fun w => step_calls s c w hcb hIv.rng.1 hIv.rng.2 (by have := hIv.sz.2.1; omega))
        obtain ⟨nx, hnx⟩ : ∃ nx, stepS s c = nx := ⟨_, rfl⟩
        rw [hnx] at HE hAs HSt
        have HAs := Aside0.mk hAs
        have HIv := Aside0.mk hIv
        have y0 := HI.out.cells.1
        obtain ⟨s0, s1, s2, s3, s4, s5, _⟩ := cells6 HS.out
        clear hr hs hc hnx hAs hIv htb hcb I4 S4 L4
        go_wp2
        refine start_ (n := 10) (S := fun w' => w'.cell? ⟨gs, 0, none⟩ = some (.int .i64 s.pos) ∧ w'.cell? ⟨gs, 1, none⟩ = some (.string s.name) ∧ w'.cell? ⟨gs, 2, none⟩ = some (.bool s.fin) ∧ w'.cell? ⟨gs, 3, none⟩ = some (.string s.attr) ∧ w'.cell? ⟨gs, 4, none⟩ = some (.string s.held) ∧ w'.cell? ⟨gs, 5, none⟩ = some (.int .i64 s.read) ∧ w'.cell? ⟨b, 0, none⟩ = some (.string p)) (ds := [9]) #[false, false, false, false, false, false, false, false, false, false] (by kernel_rfl) rfl rfl ⟨s0, s1, s2, s3, s4, s5, y0⟩ (fun hHeld => ?_)
        refine pS 1 25 #[false, true, false, false, false, false, false, false, false, false] ?_
        refine pS 2 26 #[false, true, true, false, false, false, false, false, false, false] ?_
        refine pS 3 27 #[false, true, true, true, false, false, false, false, false, false] ?_
        refine pS 5 29 #[false, true, true, true, false, true, false, false, false, false] ?_
        refine take_ (i := 0) (N := some 24) (v := ?_) (a' := ?_) #[true, true, true, true, false, true, false, false, false, false] rfl rfl (by kernel_rfl) (fun _ _ _ h => h) (Or.inl ⟨by rfl, ?_⟩) hHeld ?_ ?_
        rotate_left
        · rintro w' ⟨s0, s1, s2, s3, s4, s5, s6⟩
          go_simp
          with_reducible rfl
        rotate_left
        · simp only [Act.put, zA, zZ, zS, i64_w, i32_w]
          rfl
        refine take_ (i := 4) (N := some 28) (v := ?_) (a' := ?_) #[true, true, true, true, true, true, false, false, false, false] rfl rfl (by kernel_rfl) (fun _ _ _ h => h) (Or.inl ⟨by rfl, ?_⟩) hHeld ?_ ?_
        rotate_left
        · rintro w' ⟨s0, s1, s2, s3, s4, s5, s6⟩
          go_simp
          with_reducible rfl
        rotate_left
        · simp only [Act.put, zA, zZ, zS, i64_w, i32_w]
          rfl
        refine take_ (i := 6) (N := some 30) (v := ?_) (a' := ?_) #[true, true, true, true, true, true, true, false, false, false] rfl rfl (by kernel_rfl) (fun _ _ _ h => h) (Or.inl ⟨by rfl, ?_⟩) hHeld ?_ ?_
        rotate_left
        · rintro w' ⟨s0, s1, s2, s3, s4, s5, s6⟩
          go_simp
          with_reducible rfl
        rotate_left
        · simp only [Act.put, zA, zZ, zS, i64_w, i32_w]
          rfl
        refine join_ (σ := Nat) 1 #[true, true, true, true, true, true, true, true, true, false] (fun gn => [(31, .agg #[.int .i64 nx.pos, .string nx.name, .bool nx.fin, .string nx.attr, .string nx.held, .int .i64 nx.read]), (7, .pointer (some ⟨gn, 0, none⟩))]) (fun gn w' => Below wr.heap.size wr w' ∧ w'.heap[gn]? = some (.cells #[.int .i64 0, .string ⟨#[]⟩, .bool false, .string ⟨#[]⟩, .string ⟨#[]⟩, .int .i64 0] 44 (0, 0)) ∧ wr.heap.size ≤ gn) ?_ ?_
        rotate_left
        · intro hCont
          refine two_ (i := 7) (j := 8) (Ni := some 31) (Nj := some 7) #[true, true, true, true, true, true, true, true, false, false] #[true, true, true, true, true, true, true, false, true, false] rfl rfl rfl rfl (by kernel_rfl) (by decide) (by decide) (fun K hK => ?_) (fun K hK => ?_)
          · skip
            refine goes_ Tryz.func47 (by kernel_rfl) rfl #[.agg #[.int .i64 s.pos, .string s.name, .bool s.fin, .string s.attr, .string s.held, .int .i64 s.read], .int .u8 (c : Int)] (by rfl) rfl rfl (by simp only [List.map_toArray, List.map_cons, List.map_nil]; rfl) ?_
            with_reducible refine (HSt.out _).mono ?_
            rintro e w3 ⟨rfl, hb3⟩
            refine ⟨_, rfl, ?_⟩
            have hb3 := (below_drew (Below.refl wr.heap.size wr)).trans hb3
            refine hK.out _ _ ⟨(pw_cell_below hb3 s0), (pw_cell_below hb3 s1), (pw_cell_below hb3 s2), (pw_cell_below hb3 s3), (pw_cell_below hb3 s4), (pw_cell_below hb3 s5), (pw_cell_below hb3 y0)⟩ (fun hHeld => ?_)
            clear hK K
            refine norm_ (a' := ?_) ?_ ?_
            rotate_left
            · show Act.put _ (some 31) _ = _
              simp only [Act.put, zA, zZ, zS, i64_w, i32_w]
              rfl
            refine one_ (i := 8) (N := some 7) #[true, true, true, true, true, true, true, true, true, false] rfl rfl (by kernel_rfl) (by decide) (fun K hK => ?_)
            refine value_ (w1 := ?_) (v := ?_) (by rfl) rfl ?_ ?_
            rotate_left 2
            · go_simp
              constructor
              · rfl
              · rfl
            refine hK.out _ _ ⟨(cell_alloc (pw_cell_below hb3 s0) _), (cell_alloc (pw_cell_below hb3 s1) _), (cell_alloc (pw_cell_below hb3 s2) _), (cell_alloc (pw_cell_below hb3 s3) _), (cell_alloc (pw_cell_below hb3 s4) _), (cell_alloc (pw_cell_below hb3 s5) _), (cell_alloc (pw_cell_below hb3 y0) _)⟩ (fun hHeld => ?_)
            clear hK K
            refine norm_ (a' := ?_) ?_ ?_
            rotate_left
            · show Act.put _ (some 7) _ = _
              simp only [Act.put, zA, zZ, zS, i64_w, i32_w]
              rfl
            exact norm_ (by simp only [putAll, Act.put, List.setIfInBounds_toArray, List.set_cons_zero, List.set_cons_succ]) (hCont w3.heap.size _ ⟨hb3.alloc hb3.size _, heap_alloc_new w3 _, hb3.size⟩)
          · skip
            refine value_ (w1 := ?_) (v := ?_) (by rfl) rfl ?_ ?_
            rotate_left 2
            · go_simp
              constructor
              · rfl
              · rfl
            refine hK.out _ _ ⟨(cell_alloc (w := wr.drew) s0 _), (cell_alloc (w := wr.drew) s1 _), (cell_alloc (w := wr.drew) s2 _), (cell_alloc (w := wr.drew) s3 _), (cell_alloc (w := wr.drew) s4 _), (cell_alloc (w := wr.drew) s5 _), (cell_alloc (w := wr.drew) y0 _)⟩ (fun hHeld => ?_)
            clear hK K
            refine norm_ (a' := ?_) ?_ ?_
            rotate_left
            · show Act.put _ (some 7) _ = _
              simp only [Act.put, zA, zZ, zS, i64_w, i32_w]
              rfl
            refine one_ (i := 7) (N := some 31) #[true, true, true, true, true, true, true, true, true, false] rfl rfl (by kernel_rfl) (by decide) (fun K hK => ?_)
            refine goes_ Tryz.func47 (by kernel_rfl) rfl #[.agg #[.int .i64 s.pos, .string s.name, .bool s.fin, .string s.attr, .string s.held, .int .i64 s.read], .int .u8 (c : Int)] (by rfl) rfl rfl (by simp only [List.map_toArray, List.map_cons, List.map_nil]; rfl) ?_
            with_reducible refine (HSt.out _).mono ?_
            rintro e w3 ⟨rfl, hb3⟩
            refine ⟨_, rfl, ?_⟩
            refine hK.out _ _ ⟨(pw_cell_below hb3 (cell_alloc (w := wr.drew) s0 _)), (pw_cell_below hb3 (cell_alloc (w := wr.drew) s1 _)), (pw_cell_below hb3 (cell_alloc (w := wr.drew) s2 _)), (pw_cell_below hb3 (cell_alloc (w := wr.drew) s3 _)), (pw_cell_below hb3 (cell_alloc (w := wr.drew) s4 _)), (pw_cell_below hb3 (cell_alloc (w := wr.drew) s5 _)), (pw_cell_below hb3 (cell_alloc (w := wr.drew) y0 _))⟩ (fun hHeld => ?_)
            clear hK K
            refine norm_ (a' := ?_) ?_ ?_
            rotate_left
            · show Act.put _ (some 31) _ = _
              simp only [Act.put, zA, zZ, zS, i64_w, i32_w]
              rfl
            exact norm_ (by simp only [putAll, Act.put, List.setIfInBounds_toArray, List.set_cons_zero, List.set_cons_succ]) (hCont wr.heap.size _ ⟨(show Below wr.heap.size wr (wr.alloc (.cells #[.int .i64 0, .string ⟨#[]⟩, .bool false, .string ⟨#[]⟩, .string ⟨#[]⟩, .int .i64 0] 44)).drew from below_drew (below_alloc (Below.refl _ _) _)).trans ((show Below (wr.alloc (.cells #[.int .i64 0, .string ⟨#[]⟩, .bool false, .string ⟨#[]⟩, .string ⟨#[]⟩, .int .i64 0] 44)).drew.heap.size (wr.alloc (.cells #[.int .i64 0, .string ⟨#[]⟩, .bool false, .string ⟨#[]⟩, .string ⟨#[]⟩, .int .i64 0] 44)).drew w3 from hb3).mono (show wr.heap.size ≤ (wr.alloc (.cells #[.int .i64 0, .string ⟨#[]⟩, .bool false, .string ⟨#[]⟩, .string ⟨#[]⟩, .int .i64 0] 44)).drew.heap.size by simp)), blk_below (w := (wr.alloc (.cells #[.int .i64 0, .string ⟨#[]⟩, .bool false, .string ⟨#[]⟩, .string ⟨#[]⟩, .int .i64 0] 44)).drew) (heap_alloc_new wr _) hb3, Nat.le_refl _⟩)
        rintro gn w9 ⟨hb9, hz9, hg9⟩
        obtain ⟨z0, z1, z2, z3, z4, z5, f0, f1, f2, f3, f4, f5⟩ := cells6 hz9
        have hHeld : w9.cell? ⟨gs, 0, none⟩ = some (.int .i64 s.pos) ∧ w9.cell? ⟨gs, 1, none⟩ = some (.string s.name) ∧ w9.cell? ⟨gs, 2, none⟩ = some (.bool s.fin) ∧ w9.cell? ⟨gs, 3, none⟩ = some (.string s.attr) ∧ w9.cell? ⟨gs, 4, none⟩ = some (.string s.held) ∧ w9.cell? ⟨gs, 5, none⟩ = some (.int .i64 s.read) ∧ w9.cell? ⟨b, 0, none⟩ = some (.string p) := ⟨pw_cell_below hb9 s0, pw_cell_below hb9 s1, pw_cell_below hb9 s2, pw_cell_below hb9 s3, pw_cell_below hb9 s4, pw_cell_below hb9 s5, pw_cell_below hb9 y0⟩
        refine norm_ (a' := ?_) ?_ ?_
        rotate_left
        · simp only [putAll, Act.put, List.setIfInBounds_toArray, List.set_cons_zero, List.set_cons_succ]
          rfl
        refine last_ (i := 9) (N := none) #[true, true, true, true, true, true, true, true, true, true] rfl rfl (by kernel_rfl) (by decide) (fun K hK => ?_)
        refine skip_ (w1 := ?_) (by rfl) rfl ?_ ?_
        rotate_left
        · go_simp
          rfl
        refine hK.out _ _ ?_
        clear hK K
        refine done_ (by kernel_rfl) ?_
        have HBW := HB.out
        have hgl : gs < wr.heap.size := blk_lt HS.out
        have N10 := set6 (s := nx) hz9 rfl
        have I10 := (HI.out.below hb9).put6 (s := nx) hz9
        have S10 : StAt (put6 w9 gn nx) gs s := put6_far (HS.out.below hb9) (by omega)
        have L10 := below6 (s := nx) (HBW.trans (hb9.mono HBW.size)) (Nat.le_trans HBW.size hg9)
        unfold Tk.put6 at I10 S10
        obtain ⟨w10, hw10⟩ : ∃ w10, ((((((w9.setCell ⟨gn, 0, none⟩ (.int .i64 nx.pos)).setCell ⟨gn, 1, none⟩ (.string nx.name)).setCell ⟨gn, 2, none⟩ (.bool nx.fin)).setCell ⟨gn, 3, none⟩ (.string nx.attr)).setCell ⟨gn, 4, none⟩ (.string nx.held)).setCell ⟨gn, 5, none⟩ (.int .i64 nx.read)) = w10 := ⟨_, rfl⟩
        rw [hw10] at N10 I10 S10 L10 ⊢
        have ht := takes_calls w w10 b gs gn p r s nx i L10 I10 S10 N10 hlt hp6 (by have := HIv.out.ats; omega) (by have := HIv.out.out; omega) (fun x hx => by have := HIv.out.vals x hx; omega) (fun h => by have := HAs.out.ends h; omega) (fun h => HAs.out.rem h) HAs.out.has HAs.out.bg
        have HT := Aside0.mk ht
        have N11 := Aside0.mk N10
        have S11 := Aside0.mk S10
        clear ht hw10 N10 I10 S10 L10 z0 z1 z2 z3 z4 z5 f0 f1 f2 f3 f4 f5 hz9 hb9 hg9 hgl s0 s1 s2 s3 s4 s5 y0 HBW HI HS HB HIv HAs HSt hrun hHeld
        go_wp2_with (go_at_call 48; refine HT.out.mono ?_; rintro e w11 hT; obtain rfl := hT.ends; have N12 := hT.st.st N11.out; have S12 := hT.st.st S11.out; obtain ⟨z0, z1, z2, z3, z4, z5, _⟩ := cells6 N12; obtain ⟨y0, y1, y2, y3, y4, y5, f0, f1, f2, f3, f4, f5⟩ := cells6 S12; have HTT := Aside0.mk hT; have S13 := Aside0.mk S12; clear hT N12 S12)
        go_roundw
        case rel => exact ⟨i + 1, by go_num, by omega, ⟨by rw [HE.out]; exact HTT.out.at_.put6 (s := nx) S13.out⟩, ⟨by rw [HE.out]; exact set6 S13.out rfl⟩, ⟨below6 HTT.out.low G4.out⟩⟩
        case measure => simp [RowKit.intOf]; omega
      · have hi2 : i = p.size := by omega
        subst hi2
        have hIv := HMI.out p.size (Nat.le_refl _)
        have hr := rest_calls w wr b gs p (mach p p.size).1 (mach p p.size).2 HB.out HI.out HS.out hp6 (by have := hIv.out; omega) hIv.fr (fun h => by
          have hp0 : (mach p p.size).2.pos ≠ 0 ∧ (mach p p.size).2.pos ≠ 19 := by
            constructor
            · intro e; unfold restB at h; rw [if_pos (Or.inl e)] at h; exact absurd h (by simp)
            · intro e; unfold restB at h; rw [if_pos (by omega)] at h; exact absurd h (by simp)
          have := hIv.open_ hp0.1 hp0.2
          omega)
        have HR := Aside0.mk hr
        clear hr hIv I4 S4 L4
        go_wp2_with (go_at_call 49; refine HR.out.mono ?_; rintro e w5 hT; obtain rfl := hT.ends; obtain ⟨A1, c1, q1⟩ := hT.at_.cells.2.2.2.2.2.2.1; have HTT := Aside0.mk hT; clear hT)
        go_ret2
        obtain ⟨_, v0, v1, hb1, hS, _⟩ := HTT.out.at_
        have e1 : w5.cell? ⟨b, 1, none⟩ = some v0 := (blk_cell hb1 1).trans rfl
        rw [q1] at e1
        obtain rfl := Option.some.inj e1
        exact ⟨_, rfl, Kd.S_mono hS (fun _ _ => trivial), HTT.out.low⟩
end Go.Proofs.YtfmcdlbbbmeolaaGreatDoor.Tk
end
section
namespace Go.Proofs.YtfmcdlbbbmeolaaGreatDoor.Tr
open Go.RowKit Go.Proofs.YtfmcdlbbbmeolaaGreatDoor.XK Go.Proofs.YtfmcdlbbbmeolaaGreatDoor.Base Go.Proofs.YtfmcdlbbbmeolaaGreatDoorW.PrintWords Go.Proofs.YtfmcdlbbbmeolaaGreatDoorW.PrintLast Go.Proofs.YtfmcdlbbbmeolaaGreatDoorW.PrintMore Go.Proofs.YtfmcdlbbbmeolaaGreatDoor.Ext Go.Proofs.YtfmcdlbbbmeolaaGreatDoor.Utf Go.Proofs.YtfmcdlbbbmeolaaGreatDoor.Bld
attribute [local go_sem ↓] Go.wp_at_zero Go.wp_at_succ
set_option linter.unusedVariables false
set_option linter.unusedSimpArgs false
set_option maxRecDepth 100000
theorem made_ints (n : Nat) : madeCells #[.int .i64 0] n = (nums .i64 (List.replicate n 0)).toArray := by
  apply Array.ext
  · simp [nums, size_madeCells]
  · intro i h1 h2
    simp [nums, madeCells, Nat.mod_one]
def fm (xs : List S39) : List UInt8 := xs.flatMap fun a => 32 :: a.f0.data.toList
theorem fm_next (xs : List S39) (j : Nat) (h : j < xs.length) : fm (xs.take (j + 1)) = fm (xs.take j) ++ (32 :: xs[j].f0.data.toList) := by
  unfold fm; rw [List.take_succ_eq_append_getElem h, List.flatMap_append]; simp
theorem fm_le (xs : List S39) (j : Nat) : (fm (xs.take j)).length ≤ (fm xs).length := by
  have h : fm xs = fm (xs.take j) ++ fm (xs.drop j) := by unfold fm; rw [← List.flatMap_append, List.take_append_drop]
  rw [h, List.length_append]; omega
theorem sp_data (s : ByteArray) : ((⟨#[32]⟩ : ByteArray) ++ s).data.toList = 32 :: s.data.toList := by rw [data_append]; rfl
theorem sp_size (s : ByteArray) : ((⟨#[32]⟩ : ByteArray) ++ s).size = s.data.toList.length + 1 := by
  have : ((⟨#[32]⟩ : ByteArray) ++ s).size = ((⟨#[32]⟩ : ByteArray) ++ s).data.toList.length := rfl
  rw [this, sp_data, List.length_cons]
def skP (ns : List S69) (w : World) (e : Ending) (w' : World) : Prop :=
  e = .returned (.tuple #[.string (if mayNs ns = true then ⟨(skS itoa ns).out.toArray⟩ else ⟨#[]⟩), .int .i64 (if mayNs ns = true then 0 else 800)]) ∧ Below w.heap.size w w'
set_option maxHeartbeats 12800000 in
theorem skel_calls (ns : List S69) (A : Option Addr) (c : Nat) (w : World) (hC : Kd.C k69 w A ns.length ns) (hT : TabP w) (hn : ns.length ≤ 17592186044416) (hsz : (skS itoa ns).out.length ≤ 140737488355328) :
    Calls Tryz.prog 29 #[.slice A ns.length c] w (skP ns w) := by
  have HMay := Aside0.mk (pmay_calls ns A c w hC)
  unfold skP
  by_cases hq : mayNs ns = true
  · rw [if_pos hq, if_pos hq]
    rw [hq] at HMay
    have HC := Aside0.mk hC
    have HL := Aside0.mk hC.2.1
    have hok : 0 < ns.length ∧ ∀ k, k < ns.length → okB ns k = true := by
      unfold mayNs at hq
      rw [Bool.and_eq_true, decide_eq_true_eq, List.all_eq_true] at hq
      exact ⟨hq.1, fun k hk => hq.2 k (by simpa using hk)⟩
    have hmk := print_make 33 3 .i64 8 Tryz.underlying33 infoInt (by decide) ns.length (by omega)
    rw [made_ints] at hmk
    have HOK := Aside0.mk hok
    have HN := Aside0.mk hn
    have HSZ := Aside0.mk hsz
    have HT := Aside0.mk hT
    have hu := Tryz.underlying69
    have hua := Tryz.underlying39
    clear hq hC hok hn hsz hT
    go_enter Tryz.func29, Tryz.ntmps29
    go_wp2_with (go_at_call 65; refine HMay.out.mono ?_; rintro e w1 ⟨rfl, hb1⟩)
    have HB1 := Aside0.mk hb1
    have hI0 : SkI w1.heap.size (w1.heap.size + 1) [] (List.replicate ns.length 0) w1 ((w1.alloc (.cells #[.pointer none, .slice none 0 0] 108)).alloc (.cells (nums .i64 (List.replicate ns.length 0)).toArray 3)) := by
      refine ⟨Lib.IsBuilderF.alloc (Lib.IsBuilderF.of (Lib.fresh_isBuilder 108 5 w1)) _, ?_, ((Below.refl _ _).alloc (Nat.le_refl _) _).alloc (by simp) _⟩
      have h := heap_alloc_new (w1.alloc (.cells #[.pointer none, .slice none 0 0] 108)) (.cells (nums .i64 (List.replicate ns.length 0)).toArray 3)
      rwa [World.size_alloc] at h
    have HI0 := Aside0.mk hI0
    clear hb1 hI0 HMay
    go_loopw [7, 6] (fun i nx wr => ∃ k : Nat, 1 ≤ k ∧ k ≤ ns.length ∧ i = .int .i64 k ∧ nx = .int .i64 (skS itoa (ns.take k)).next ∧ Aside0 (SkI w1.heap.size (w1.heap.size + 1) (skS itoa (ns.take k)).out (numsAt ns k) w1 wr))
      (fun i _ _ => ns.length - (RowKit.intOf i).toNat)
    case atStart =>
      have e1 : ns.take 1 = [nd ns 0] := by rw [take_nd (k := 0) HOK.out.1]; rfl
      have en : numsAt ns 1 = List.replicate ns.length 0 := by
        unfold numsAt
        rw [e1]
        obtain ⟨m, hm⟩ : ∃ m, ns.length = m + 1 := ⟨ns.length - 1, by have := HOK.out.1; omega⟩
        rw [hm, List.replicate_succ]; rfl
      exact ⟨1, Nat.le_refl _, HOK.out.1, rfl, by rw [e1]; rfl, ⟨by rw [en, e1]; exact HI0.out⟩⟩
    case round =>
      obtain ⟨k, hk1, hk, rfl, rfl, HI⟩ := hrel
      clear HI0
      have hm := HL.out
      by_cases hlt : k < ns.length
      · obtain ⟨ad, A3, c3, e, g0, g1, g2, g3, g4, g5, g6⟩ := pnode_at HC.out k hlt
        cases e
        have ho := HOK.out.2 k hlt
        unfold okB at ho
        obtain ⟨x, hx⟩ : ∃ x, nd ns k = x := ⟨_, rfl⟩
        rw [hx] at g0 g1 g2 g3 g4 g5 g6 ho
        rw [if_neg (show ¬ k = 0 by omega)] at ho
        simp only [Bool.and_eq_true, decide_eq_true_eq, beq_iff_eq] at ho
        obtain ⟨⟨ho1, ho2⟩, ho3, ho4, ho5⟩ := ho
        have hx0 : x.f0 ≠ 0 := fun e => by rw [decide_eq_true e, decide_eq_false (show ¬ k = 0 by omega)] at ho2; exact absurd ho2 (by simp)
        obtain ⟨q, hq⟩ : ∃ q : Nat, x.f4 = (q : Int) := ⟨x.f4.toNat, by omega⟩
        have hqk : q < k := by omega
        obtain ⟨p, hp⟩ : ∃ p, ad.add (k * 5) = p := ⟨_, rfl⟩
        rw [hp] at g0 g1 g2 g3 g4
        rw [hq] at g4
        replace g0 := pw_cell_below HB1.out g0
        replace g1 := pw_cell_below HB1.out g1
        replace g2 := pw_cell_below HB1.out g2
        replace g3 := pw_cell_below HB1.out g3
        replace g4 := pw_cell_below HB1.out g4
        replace g6 := Kd.C_below g6 HB1.out
        have G0 := Aside0.mk g0
        have G1 := Aside0.mk g1
        have G2 := Aside0.mk g2
        have G3 := Aside0.mk g3
        have G4 := Aside0.mk g4
        have G6 := Aside0.mk g6
        have hnx := sk_next hk1 hlt
        rw [hx] at hnx
        have z0 := pw_cell_below HI.out.low g0
        clear g0 g1 g2 g3 g4 g6 ho1 ho2 ho3 ho4 ho5
        by_cases h2 : x.f0 = 2
        · have hnm := nums_same hk1 hlt (by rw [hx]; exact h2)
          rw [h2] at z0
          have hst : skS itoa (ns.take (k + 1)) = ⟨(skS itoa (ns.take k)).nums ++ [0], (skS itoa (ns.take k)).next, (skS itoa (ns.take k)).out⟩ := by rw [hnx]; unfold skStep; rw [if_pos h2]
          have HST := Aside0.mk hst
          have HNM := Aside0.mk hnm
          clear hnx hnm hst h2 hq hqk hx hx0
          go_wp2
          go_roundw
          case rel => exact ⟨k + 1, by omega, by omega, by go_num, by rw [HST.out], ⟨by rw [HST.out, ← HNM.out]; exact HI.out⟩⟩
          case measure => simp [RowKit.intOf]; omega
        · have hI := HI.out
          have hst : skS itoa (ns.take (k + 1)) = ⟨(skS itoa (ns.take k)).nums ++ [(skS itoa (ns.take k)).next], (skS itoa (ns.take k)).next + 1, (skS itoa (ns.take k)).out ++ lineL itoa ((skS itoa (ns.take k)).nums.getD q 0) x.f0 x.f1 x.f2 x.f3⟩ := by
            rw [hnx]; unfold skStep; rw [if_neg h2, hq, Int.toNat_natCast]
          have hnm := nums_put hk1 hlt (by rw [hx]; exact h2)
          have hrd := nums_read hk1 hlt hqk (skS itoa (ns.take k)).next
          obtain ⟨r1, r2, r3⟩ := next_rng ns k hk1 hk
          have hle := out_le ns (k + 1) (by omega) (by omega)
          rw [hst] at hle
          simp only at hle
          obtain ⟨nx, hnxe⟩ : ∃ nx, (skS itoa (ns.take k)).next = nx := ⟨_, rfl⟩
          obtain ⟨acc, hacc⟩ : ∃ acc, (skS itoa (ns.take k)).out = acc := ⟨_, rfl⟩
          obtain ⟨v, hv⟩ : ∃ v, (skS itoa (ns.take k)).nums.getD q 0 = v := ⟨_, rfl⟩
          rw [hnxe, hacc, hv] at hst
          rw [hnxe] at hnm hrd r1 r2 ⊢
          have n2 : (x.f0 == 2) = false := by simpa using h2
          rw [hacc, hv] at hle
          rw [hv] at hrd
          rw [hacc] at hI
          have hvr : 0 ≤ v ∧ v ≤ (k : Int) := by
            rw [← hv, List.getD_eq_getElem?_getD]
            cases hg : (skS itoa (ns.take k)).nums[q]? with
            | none => exact ⟨by decide, by show (0 : Int) ≤ k; omega⟩
            | some y => exact r3 y (List.mem_of_getElem? hg)
          have wk := blk_cell hI.nums k
          rw [ints_get _ _ (by rw [nums_len hk1 hk]; exact hlt)] at wk
          have fk := blk_frozen hI.nums k
          have hP := hI.put (Nat.le_succ _) k nx
          rw [hnm] at hP
          have rq := blk_cell hP.nums q
          rw [ints_get _ _ (by rw [nums_len (by omega) (by omega)]; omega), ← hnm, hrd] at rq
          have y0 := pw_cell_below hP.low G0.out
          have y4 := pw_cell_below hP.low G4.out
          have HIt := Aside0.mk (Tryz.strconv_Itoa v (by omega) (by have := HN.out; omega) _ (TabP.below HT.out (HB1.out.trans (hP.low.mono HB1.out.size))))
          have HP := Aside0.mk hP
          have HST := Aside0.mk hst
          have HNX := Aside0.mk hnxe
          have hlen : acc.length + (itoa v).length + (if x.f0 = 1 then [32, 101, 32] ++ x.f1.data.toList else [32, 99, 32] ++ x.f2.data.toList : List UInt8).length + (fm x.f3).length + 1 ≤ 140737488355328 := by
            refine Nat.le_trans (Nat.le_of_eq ?_) (Nat.le_trans hle HSZ.out)
            unfold lineL fm
            simp only [List.length_append, List.length_cons, List.length_nil]; omega
          have HLen := Aside0.mk hlen
          have hnw : wrap64 (nx + 1) = nx + 1 := by unfold wrap64; have := HN.out; omega
          clear hI hnm hrd r1 r2 r3 hle hacc hv hvr hP hst hnxe hlen hnx HI h2 hx hx0 hq
          by_cases k1 : x.f0 = 1
          · have K1 := Aside0.mk k1
            rw [if_pos k1] at HLen
            rw [k1] at y0 n2 z0
            clear k1
            have hz3 : 3 + x.f1.size ≤ 9223372036854775807 := by have := HLen.out; have e : x.f1.data.toList.length = x.f1.size := rfl; simp only [List.length_append, List.length_cons, List.length_nil] at this; omega
            go_wp2_with (go_at_call 67; (with_reducible refine HIt.out.mono ?_); rintro e w3 ⟨rfl, hgr⟩)
            have hI3 := HP.out.step (show Below _ _ w3 from by obtain ⟨kk, os, rfl⟩ := hgr; exact Lib.below_grow _ _ (Nat.le_refl _) _ _)
            have HI3 := Aside0.mk hI3
            have hl3 := HLen.out
            obtain ⟨P1, hP1⟩ : ∃ P1, itoa v = P1 := ⟨_, rfl⟩
            have hs1 : (⟨P1.toArray⟩ : ByteArray).size = P1.length := by show P1.toArray.size = _; simp
            rw [show (Lib.itoa v) = P1 from hP1]
            rw [hP1] at hl3
            have HPe := Aside0.mk hP1
            have HW1 := Aside0.mk (writeString w1.heap.size w1.heap.size (Lib.byteCells acc) ⟨P1.toArray⟩ w3 hI3.bld (by rw [Lib.byteCells_length, hs1]; omega) (by have := hI3.low.size; omega))
            have HL3 := Aside0.mk hl3
            clear hgr hI3 hl3 hs1 hP1 y0 y4 wk fk rq HIt HP HLen
            go_wp2_with (go_at_call 66; (with_reducible refine HW1.out.mono ?_); rintro e w4 ⟨rfl, hi, hb, hk⟩; have hIn := HI3.out.wrote rfl (by omega) _ hi hb hk; clear hi hb hk; have z0 := pw_cell_below hIn.low G0.out; have z1 := pw_cell_below hIn.low G1.out; rw [K1.out] at z0; have HI4 := Aside0.mk hIn; clear hIn)
            obtain ⟨s2, hs2⟩ : ∃ s2 : ByteArray, (⟨#[32, 101, 32]⟩ : ByteArray) ++ x.f1 = s2 := ⟨_, rfl⟩
            have hd2 : s2.data.toList = [32, 101, 32] ++ x.f1.data.toList := by rw [← hs2, data_append]
            have hz2 : s2.size = s2.data.toList.length := rfl
            rw [hs2]
            have hl4 := HL3.out
            rw [← hd2] at hl4
            have HW2 := Aside0.mk (writeString w1.heap.size w1.heap.size (Lib.byteCells (acc ++ (⟨P1.toArray⟩ : ByteArray).data.toList)) s2 w4 HI4.out.bld (by rw [Lib.byteCells_length, List.length_append, hz2]; show acc.length + P1.length + _ ≤ _; omega) (by have := HI4.out.low.size; omega))
            have HD2 := Aside0.mk hd2
            have HL4 := Aside0.mk hl4
            clear hs2 hd2 hz2 hl4 z0 z1 hz3 HW1 HL3
            go_wp2_with (go_at_call 66; (with_reducible refine HW2.out.mono ?_); rintro e w5 ⟨rfl, hi, hb, hk⟩; have hIn := HI4.out.wrote rfl (by omega) _ hi hb hk; clear hi hb hk; have z3 := pw_cell_below hIn.low G3.out; have HI5 := Aside0.mk hIn; clear hIn)
            obtain ⟨ac2, hac2⟩ : ∃ ac2 : List UInt8, acc ++ (⟨P1.toArray⟩ : ByteArray).data.toList ++ s2.data.toList = ac2 := ⟨_, rfl⟩
            rw [hac2] at HI5
            have HA2 := Aside0.mk (show acc ++ P1 ++ s2.data.toList = ac2 from hac2)
            have HL5 := Aside0.mk (show ac2.length + (fm x.f3).length + 1 ≤ 140737488355328 by rw [← hac2, List.length_append, List.length_append]; have := HL4.out; show acc.length + P1.length + _ + _ + 1 ≤ _; omega)
            clear hac2 HL4 HW2 HI3 HI4
            have hm3 := G6.out.2.1
            go_wp2
            go_loopw [68] (fun i wx => ∃ j : Nat, j ≤ x.f3.length ∧ i = .int .i64 j ∧ Aside0 (SkI w1.heap.size (w1.heap.size + 1) (ac2 ++ fm (x.f3.take j)) (numsAt ns (k + 1)) w1 wx))
              (fun i _ => x.f3.length - (RowKit.intOf i).toNat)
            case atStart => exact ⟨0, Nat.zero_le _, rfl, ⟨by rw [show fm (x.f3.take 0) = [] from rfl, List.append_nil]; exact HI5.out⟩⟩
            case round =>
              obtain ⟨j, hj, rfl, HJ⟩ := hrel
              clear HI5 z3
              have hm3 := G6.out.2.1
              by_cases hjl : j < x.f3.length
              · obtain ⟨ae, e, y0, y1⟩ := at_T39 G6.out (j : Int) (by omega) (by omega)
                cases e
                have ha : rd_T39 x.f3 (j : Int) = x.f3[j] := by simp [rd_T39, List.getD_eq_getElem?_getD, List.getElem?_eq_getElem hjl]
                have hfn := fm_next x.f3 j hjl
                obtain ⟨a, hae⟩ : ∃ a, x.f3[j] = a := ⟨_, rfl⟩
                rw [ha, hae] at y0 y1
                rw [hae] at hfn
                rw [Int.toNat_natCast] at y0 y1
                replace y0 := pw_cell_below HJ.out.low y0
                replace y1 := pw_cell_below HJ.out.low y1
                have hfl := fm_le x.f3 (j + 1)
                rw [hfn, List.length_append, List.length_cons] at hfl
                have hsa : a.f0.data.toList.length = a.f0.size := rfl
                have hz1 : 1 + a.f0.size ≤ 9223372036854775807 := by have := HL5.out; omega
                have hI6 := HJ.out.step ((Below.refl wr.heap.size wr).alloc (Nat.le_refl _) (.cells #[.string a.f0, .string a.f1] 39))
                have HW3 := Aside0.mk (writeString w1.heap.size w1.heap.size (Lib.byteCells (ac2 ++ fm (x.f3.take j))) ((⟨#[32]⟩ : ByteArray) ++ a.f0) _ hI6.bld (by rw [Lib.byteCells_length, List.length_append, sp_size]; have := HL5.out; omega) (by have := hI6.low.size; omega))
                have HI6 := Aside0.mk hI6
                have HFN := Aside0.mk hfn
                clear hI6 hfn ha hae hfl hsa
                go_wp2_with (go_at_call 66; (with_reducible refine HW3.out.mono ?_); rintro e w7 ⟨rfl, hi, hb, hk⟩; have hIn := HI6.out.wrote rfl (by omega) _ hi hb hk; clear hi hb hk; have HI7 := Aside0.mk hIn; clear hIn)
                go_roundw
                case rel => exact ⟨j + 1, by omega, by go_num, ⟨by have := HI7.out; rw [sp_data, List.append_assoc, ← HFN.out] at this; exact this⟩⟩
                case measure => simp [RowKit.intOf]; omega
              · have hje : x.f3.take j = x.f3 := List.take_of_length_le (by omega)
                rw [hje] at HJ
                have HW4 := Aside0.mk (writeString w1.heap.size w1.heap.size (Lib.byteCells (ac2 ++ fm x.f3)) ⟨#[10]⟩ wr HJ.out.bld (by rw [Lib.byteCells_length, List.length_append]; exact HL5.out) (by have := HJ.out.low.size; omega))
                clear hje
                go_wp2_with (go_at_call 66; (with_reducible refine HW4.out.mono ?_); rintro e w8 ⟨rfl, hi, hb, hk⟩; have hIn := HJ.out.wrote rfl (by omega) _ hi hb hk; clear hi hb hk; have HI8 := Aside0.mk hIn; clear hIn)
                go_roundw
                case rel =>
                  refine ⟨k + 1, by omega, by omega, by go_num, by rw [HST.out], ⟨?_⟩⟩
                  rw [HST.out]
                  have := HI8.out
                  rw [← HA2.out, HD2.out] at this
                  have e : acc ++ lineL itoa v x.f0 x.f1 x.f2 x.f3 = acc ++ P1 ++ ([32, 101, 32] ++ x.f1.data.toList) ++ fm x.f3 ++ (⟨#[10]⟩ : ByteArray).data.toList := by
                    unfold lineL; rw [HPe.out, if_pos K1.out]; show acc ++ (P1 ++ _ ++ fm x.f3 ++ [10]) = acc ++ P1 ++ _ ++ fm x.f3 ++ [10]; simp only [List.append_assoc]
                  show SkI _ _ (acc ++ lineL itoa v x.f0 x.f1 x.f2 x.f3) _ _ _
                  rw [e]; exact this
                case measure => simp [RowKit.intOf]; omega
          · have n1 : (x.f0 == 1) = false := by simpa using k1
            have K1 := Aside0.mk k1
            rw [if_neg k1] at HLen
            clear k1
            have hz3 : 3 + x.f2.size ≤ 9223372036854775807 := by have := HLen.out; have e : x.f2.data.toList.length = x.f2.size := rfl; simp only [List.length_append, List.length_cons, List.length_nil] at this; omega
            go_wp2_with (go_at_call 67; (with_reducible refine HIt.out.mono ?_); rintro e w3 ⟨rfl, hgr⟩)
            have hI3 := HP.out.step (show Below _ _ w3 from by obtain ⟨kk, os, rfl⟩ := hgr; exact Lib.below_grow _ _ (Nat.le_refl _) _ _)
            have HI3 := Aside0.mk hI3
            have hl3 := HLen.out
            obtain ⟨P1, hP1⟩ : ∃ P1, itoa v = P1 := ⟨_, rfl⟩
            have hs1 : (⟨P1.toArray⟩ : ByteArray).size = P1.length := by show P1.toArray.size = _; simp
            rw [show (Lib.itoa v) = P1 from hP1]
            rw [hP1] at hl3
            have HPe := Aside0.mk hP1
            have HW1 := Aside0.mk (writeString w1.heap.size w1.heap.size (Lib.byteCells acc) ⟨P1.toArray⟩ w3 hI3.bld (by rw [Lib.byteCells_length, hs1]; omega) (by have := hI3.low.size; omega))
            have HL3 := Aside0.mk hl3
            clear hgr hI3 hl3 hs1 hP1 y0 y4 wk fk rq HIt HP HLen
            go_wp2_with (go_at_call 66; (with_reducible refine HW1.out.mono ?_); rintro e w4 ⟨rfl, hi, hb, hk⟩; have hIn := HI3.out.wrote rfl (by omega) _ hi hb hk; clear hi hb hk; have z0 := pw_cell_below hIn.low G0.out; have z2 := pw_cell_below hIn.low G2.out; have HI4 := Aside0.mk hIn; clear hIn)
            obtain ⟨s2, hs2⟩ : ∃ s2 : ByteArray, (⟨#[32, 99, 32]⟩ : ByteArray) ++ x.f2 = s2 := ⟨_, rfl⟩
            have hd2 : s2.data.toList = [32, 99, 32] ++ x.f2.data.toList := by rw [← hs2, data_append]
            have hz2 : s2.size = s2.data.toList.length := rfl
            rw [hs2]
            have hl4 := HL3.out
            rw [← hd2] at hl4
            have HW2 := Aside0.mk (writeString w1.heap.size w1.heap.size (Lib.byteCells (acc ++ (⟨P1.toArray⟩ : ByteArray).data.toList)) s2 w4 HI4.out.bld (by rw [Lib.byteCells_length, List.length_append, hz2]; show acc.length + P1.length + _ ≤ _; omega) (by have := HI4.out.low.size; omega))
            have HD2 := Aside0.mk hd2
            have HL4 := Aside0.mk hl4
            clear hs2 hd2 hz2 hl4 z0 z2 hz3 HW1 HL3
            go_wp2_with (go_at_call 66; (with_reducible refine HW2.out.mono ?_); rintro e w5 ⟨rfl, hi, hb, hk⟩; have hIn := HI4.out.wrote rfl (by omega) _ hi hb hk; clear hi hb hk; have z3 := pw_cell_below hIn.low G3.out; have HI5 := Aside0.mk hIn; clear hIn)
            obtain ⟨ac2, hac2⟩ : ∃ ac2 : List UInt8, acc ++ (⟨P1.toArray⟩ : ByteArray).data.toList ++ s2.data.toList = ac2 := ⟨_, rfl⟩
            rw [hac2] at HI5
            have HA2 := Aside0.mk (show acc ++ P1 ++ s2.data.toList = ac2 from hac2)
            have HL5 := Aside0.mk (show ac2.length + (fm x.f3).length + 1 ≤ 140737488355328 by rw [← hac2, List.length_append, List.length_append]; have := HL4.out; show acc.length + P1.length + _ + _ + 1 ≤ _; omega)
            clear hac2 HL4 HW2 HI3 HI4
            have hm3 := G6.out.2.1
            go_wp2
            go_loopw [68] (fun i wx => ∃ j : Nat, j ≤ x.f3.length ∧ i = .int .i64 j ∧ Aside0 (SkI w1.heap.size (w1.heap.size + 1) (ac2 ++ fm (x.f3.take j)) (numsAt ns (k + 1)) w1 wx))
              (fun i _ => x.f3.length - (RowKit.intOf i).toNat)
            case atStart => exact ⟨0, Nat.zero_le _, rfl, ⟨by rw [show fm (x.f3.take 0) = [] from rfl, List.append_nil]; exact HI5.out⟩⟩
            case round =>
              obtain ⟨j, hj, rfl, HJ⟩ := hrel
              clear HI5 z3
              have hm3 := G6.out.2.1
              by_cases hjl : j < x.f3.length
              · obtain ⟨ae, e, y0, y1⟩ := at_T39 G6.out (j : Int) (by omega) (by omega)
                cases e
                have ha : rd_T39 x.f3 (j : Int) = x.f3[j] := by simp [rd_T39, List.getD_eq_getElem?_getD, List.getElem?_eq_getElem hjl]
                have hfn := fm_next x.f3 j hjl
                obtain ⟨a, hae⟩ : ∃ a, x.f3[j] = a := ⟨_, rfl⟩
                rw [ha, hae] at y0 y1
                rw [hae] at hfn
                rw [Int.toNat_natCast] at y0 y1
                replace y0 := pw_cell_below HJ.out.low y0
                replace y1 := pw_cell_below HJ.out.low y1
                have hfl := fm_le x.f3 (j + 1)
                rw [hfn, List.length_append, List.length_cons] at hfl
                have hsa : a.f0.data.toList.length = a.f0.size := rfl
                have hz1 : 1 + a.f0.size ≤ 9223372036854775807 := by have := HL5.out; omega
                have hI6 := HJ.out.step ((Below.refl wr.heap.size wr).alloc (Nat.le_refl _) (.cells #[.string a.f0, .string a.f1] 39))
                have HW3 := Aside0.mk (writeString w1.heap.size w1.heap.size (Lib.byteCells (ac2 ++ fm (x.f3.take j))) ((⟨#[32]⟩ : ByteArray) ++ a.f0) _ hI6.bld (by rw [Lib.byteCells_length, List.length_append, sp_size]; have := HL5.out; omega) (by have := hI6.low.size; omega))
                have HI6 := Aside0.mk hI6
                have HFN := Aside0.mk hfn
                clear hI6 hfn ha hae hfl hsa
                go_wp2_with (go_at_call 66; (with_reducible refine HW3.out.mono ?_); rintro e w7 ⟨rfl, hi, hb, hk⟩; have hIn := HI6.out.wrote rfl (by omega) _ hi hb hk; clear hi hb hk; have HI7 := Aside0.mk hIn; clear hIn)
                go_roundw
                case rel => exact ⟨j + 1, by omega, by go_num, ⟨by have := HI7.out; rw [sp_data, List.append_assoc, ← HFN.out] at this; exact this⟩⟩
                case measure => simp [RowKit.intOf]; omega
              · have hje : x.f3.take j = x.f3 := List.take_of_length_le (by omega)
                rw [hje] at HJ
                have HW4 := Aside0.mk (writeString w1.heap.size w1.heap.size (Lib.byteCells (ac2 ++ fm x.f3)) ⟨#[10]⟩ wr HJ.out.bld (by rw [Lib.byteCells_length, List.length_append]; exact HL5.out) (by have := HJ.out.low.size; omega))
                clear hje
                go_wp2_with (go_at_call 66; (with_reducible refine HW4.out.mono ?_); rintro e w8 ⟨rfl, hi, hb, hk⟩; have hIn := HJ.out.wrote rfl (by omega) _ hi hb hk; clear hi hb hk; have HI8 := Aside0.mk hIn; clear hIn)
                go_roundw
                case rel =>
                  refine ⟨k + 1, by omega, by omega, by go_num, by rw [HST.out], ⟨?_⟩⟩
                  rw [HST.out]
                  have := HI8.out
                  rw [← HA2.out, HD2.out] at this
                  have e : acc ++ lineL itoa v x.f0 x.f1 x.f2 x.f3 = acc ++ P1 ++ ([32, 99, 32] ++ x.f2.data.toList) ++ fm x.f3 ++ (⟨#[10]⟩ : ByteArray).data.toList := by
                    unfold lineL; rw [HPe.out, if_neg K1.out]; show acc ++ (P1 ++ _ ++ fm x.f3 ++ [10]) = acc ++ P1 ++ _ ++ fm x.f3 ++ [10]; simp only [List.append_assoc]
                  show SkI _ _ (acc ++ lineL itoa v x.f0 x.f1 x.f2 x.f3) _ _ _
                  rw [e]; exact this
                case measure => simp [RowKit.intOf]; omega
      · have hkl : k = ns.length := by omega
        subst hkl
        rw [List.take_of_length_le (Nat.le_refl _)] at HI ⊢
        have hstr := Tryz.Builder_String_any_f w1.heap.size w1.heap.size (skS itoa ns).out wr HI.out.bld HI.out.low.size
        have HS := Aside0.mk hstr
        clear hstr
        go_wp2_with (go_at_call 68; (with_reducible refine HS.out.mono ?_); rintro e w2 ⟨rfl, _, hb2⟩)
        go_ret2
        exact ⟨rfl, HB1.out.trans ((HI.out.low.trans hb2).mono HB1.out.size)⟩
  · have hq : mayNs ns = false := by simpa using hq
    rw [if_neg (by rw [hq]; simp), if_neg (by rw [hq]; simp)]
    rw [hq] at HMay
    clear hq hC hT hn hsz
    go_enter Tryz.func29, Tryz.ntmps29
    go_wp2_with (go_at_call 65; refine HMay.out.mono ?_; rintro e w1 ⟨rfl, hb1⟩)
    go_ret2
    exact ⟨rfl, hb1⟩
end Go.Proofs.YtfmcdlbbbmeolaaGreatDoor.Tr
end
section
namespace Go.Proofs.YtfmcdlbbbmeolaaGreatDoor.ExtP
open Go.RowKit Go.Proofs.YtfmcdlbbbmeolaaGreatDoor.XK Go.Proofs.YtfmcdlbbbmeolaaGreatDoor.Tk Go.Proofs.YtfmcdlbbbmeolaaGreatDoor.Base Go.Proofs.YtfmcdlbbbmeolaaGreatDoorW.PrintWords Go.Proofs.YtfmcdlbbbmeolaaGreatDoorW.PrintLast Go.Proofs.YtfmcdlbbbmeolaaGreatDoorW.PrintMore
open Go.Proofs.YtfmcdlbbbmeolaaGreatDoor.Ln (MaxAt)
open Go.Proofs.YtfmcdlbbbmeolaaGreatDoor.Tr (TabP toks buildF mayNs skS itoa)
set_option linter.unusedVariables false
def Tabs (w : World) : Prop := (∃ m, MaxAt m w) ∧ TabP w
theorem tabs_below {w w' : World} (h : Tabs w) (hb : Below w.heap.size w w') : Tabs w' := ⟨h.1.imp fun _ hm => hm.below hb, h.2.below hb⟩
theorem nil_beq (l : List UInt8) : (l == ([] : List UInt8)) = l.isEmpty := by cases l <;> rfl
def tok_Tokens.f (a0 : ByteArray) : Option (List S41 × Int) := some (tokensF a0)
theorem tok_Tokens.calls (a0 : ByteArray) (r1 : List S41) (r2 : Int) (w : World) (hT : Tabs w) (h : tok_Tokens.f a0 = some (r1, r2)) :
    Calls Tryz.prog 18 #[.string a0] w fun e w' => ∃ v0_ : Value, e = .returned (.tuple #[v0_, .int .i64 r2]) ∧ Kd.S k41 41 w' w.heap.size (fun _ => True) v0_ r1 ∧ Below w.heap.size w w' := by
  have h := Option.some.inj h
  obtain ⟨⟨m, hm⟩, _⟩ := hT
  refine (tokens_calls a0 m w hm).mono ?_
  rintro e w' ⟨v, rfl, h2, h3⟩
  rw [h] at h2
  exact ⟨v, by rw [h], h2, h3⟩
def tree_Build.f (l0 : List S41) : Option (List S69 × Int) := if toks l0 ≤ 4611686018427387904 then some (buildF l0) else none
theorem tree_Build.calls (A0 : Option Addr) (c0 : Nat) (l0 : List S41) (r1 : List S69) (r2 : Int) (w : World) (hr0 : Kd.C k41 w A0 l0.length l0) (hc0 : l0.length ≤ c0) (h : tree_Build.f l0 = some (r1, r2)) :
    Calls Tryz.prog 63 #[.slice A0 l0.length c0] w fun e w' => ∃ v0_ : Value, e = .returned (.tuple #[v0_, .int .i64 r2]) ∧ Kd.S k69 69 w' w.heap.size (fun _ => True) v0_ r1 ∧ Below w.heap.size w w' := by
  unfold tree_Build.f at h
  by_cases hs : toks l0 ≤ 4611686018427387904
  · rw [if_pos hs] at h
    have h := Option.some.inj h
    refine (Tr.build_calls l0 A0 c0 w hr0 hs).mono ?_
    rintro e w' ⟨v, rfl, h2, h3⟩
    rw [h] at h2
    exact ⟨v, by rw [h], h2, h3⟩
  · rw [if_neg hs] at h; cases h
def page_may.f (l0 : List S69) : Option Bool := some (mayNs l0)
theorem page_may.calls (A0 : Option Addr) (c0 : Nat) (l0 : List S69) (r : Bool) (w : World) (hr0 : Kd.C k69 w A0 l0.length l0) (hc0 : l0.length ≤ c0) (h : page_may.f l0 = some r) :
    Calls Tryz.prog 65 #[.slice A0 l0.length c0] w fun e w' => e = .returned (.bool r) ∧ Below w.heap.size w w' := by
  obtain rfl := Option.some.inj h
  exact Tr.pmay_calls l0 A0 c0 w hr0
def skB (ns : List S69) : ByteArray × Int := (if mayNs ns = true then ⟨(skS itoa ns).out.toArray⟩ else ⟨#[]⟩, if mayNs ns = true then 0 else 800)
def page_Skeleton.f (l0 : List S69) : Option (ByteArray × Int) := if l0.length ≤ 17592186044416 ∧ (skS itoa l0).out.length ≤ 140737488355328 then some (skB l0) else none
theorem page_Skeleton.calls (A0 : Option Addr) (c0 : Nat) (l0 : List S69) (r1 : ByteArray) (r2 : Int) (w : World) (hT : Tabs w) (hr0 : Kd.C k69 w A0 l0.length l0) (hc0 : l0.length ≤ c0) (h : page_Skeleton.f l0 = some (r1, r2)) :
    Calls Tryz.prog 29 #[.slice A0 l0.length c0] w fun e w' => e = .returned (.tuple #[.string r1, .int .i64 r2]) ∧ Below w.heap.size w w' := by
  unfold page_Skeleton.f at h
  by_cases hs : l0.length ≤ 17592186044416 ∧ (skS itoa l0).out.length ≤ 140737488355328
  · rw [if_pos hs] at h
    have h := Option.some.inj h
    unfold skB at h
    simp only [Prod.mk.injEq] at h
    obtain ⟨e1, e2⟩ := h
    subst e1 e2
    exact Tr.skel_calls l0 A0 c0 w hr0 hT.2 hs.1 hs.2
  · rw [if_neg hs] at h; cases h
end Go.Proofs.YtfmcdlbbbmeolaaGreatDoor.ExtP
end
