/- stolelaw0.SpoilNodes: walked: it writes over its own row and its elements' rows alone. -/
import Derived.Test.YtkhgnaakcaghjaaTrFold
import Derived.Test.YtkhgnaakcaghjaaXA4
namespace Go.Proofs.Ytkhgnaakcaghjaa.Tr
open Go.RowKit Go.Proofs.Ytkhgnaakcaghjaa.XA Go.Proofs.Ytkhgnaakcaghjaa.Base Go.Proofs.YtkhgnaakcaghjaaW.PrintWords Go.Proofs.YtkhgnaakcaghjaaW.PrintLast Go.Proofs.YtkhgnaakcaghjaaW.PrintMore
attribute [local go_sem ↓] Go.wp_at_zero Go.wp_at_succ
set_option linter.unusedVariables false
set_option linter.unusedSimpArgs false

def SpAt (l : List S48) : Prop := l.length ≤ 1048576 ∧ ∀ a ∈ l, a.f0.size ≤ 1048576
theorem spoil_ev : ∀ d i (xs : List S48), i + d = xs.length → xs.length ≤ 1048576 → (∀ j, i ≤ j → j < xs.length → (xs.getD j z48).f0.size ≤ 1048576) → ∃ r, Ev (fun k => stolelaw0_SpoilAttrs.l0 k xs (i : Int)) r := by
  intro d
  induction d with
  | zero =>
    intro i xs hi _ _
    refine ⟨xs, Ev.step (f := fun k => _) (fun k => by rw [stolelaw0_SpoilAttrs.l0]) ?_⟩
    exact Ev.neg (by omega) (Ev.now _)
  | succ d ih =>
    intro i xs hi hl hx
    have hr : rd_T48 xs (i : Int) = xs.getD i z48 := by simp [rd_T48]
    obtain ⟨y, hy⟩ : ∃ y : S48, (⟨(rd_T48 xs (i : Int)).f0 ++ (⟨#[33]⟩ : ByteArray), (rd_T48 xs (i : Int)).f1⟩ : S48) = y := ⟨_, rfl⟩
    obtain ⟨r, h⟩ := ih (i + 1) (xs.set i y) (by rw [List.length_set]; omega) (by rw [List.length_set]; exact hl) (fun j h1 h2 => by
      rw [List.length_set] at h2
      have : (xs.set i y).getD j z48 = xs.getD j z48 := by rw [List.getD_eq_getElem?_getD, List.getElem?_set, if_neg (by omega), ← List.getD_eq_getElem?_getD]
      rw [this]; exact hx j (by omega) h2)
    refine ⟨r, Ev.step (f := fun k => _) (fun k => by rw [stolelaw0_SpoilAttrs.l0]) ?_⟩
    have hs := hx i (Nat.le_refl _) (by omega)
    rw [hy, hr, Int.toNat_natCast]
    refine Ev.pos (by omega) (Ev.pos (by omega) (Ev.pos (by omega) ?_))
    rw [wrap_next (n := 2000000) (by omega) (by decide)]
    exact h
theorem spoil_some (l : List S48) (h : SpAt l) : ∃ k r, stolelaw0_SpoilAttrs.f k l = some r := by
  obtain ⟨r, n, hn⟩ := spoil_ev l.length 0 l (by omega) h.1 (fun j _ hj => by
    rw [List.getD_eq_getElem?_getD, List.getElem?_eq_getElem hj]; exact h.2 _ (List.getElem_mem hj))
  exact ⟨n, r, hn n (Nat.le_refl _)⟩
/-- Node i's attributes, lent. -/
theorem S_lendA {W : World} {base : Nat} {ok : Nat → Prop} {v : Value} {ns : List S38} (h : Kd.S k38 38 W base ok v ns) (i : Nat) (hi : i < ns.length) (hfr : ∀ k, W.heap.size ≤ k → ok k) :
    ∃ g cap A3 c3 oki, v = .slice (some ⟨g, 0, none⟩) ns.length cap ∧ W.cell? ⟨g, i * 5 + 3, none⟩ = some (.slice A3 ns[i].f3.length c3) ∧ Kd.R k48 48 W base oki (.slice A3 ns[i].f3.length c3) ns[i].f3 ∧ (∀ k, oki k → ok k ∧ k ≠ g) ∧
      ∀ (w1 : World) (r : List S48), Kept W w1 oki → Kd.R k48 48 w1 base (fun k => oki k ∨ W.heap.size ≤ k) (.slice A3 ns[i].f3.length c3) r → Kd.S k38 38 w1 base ok v (ns.set i ⟨ns[i].f0, ns[i].f1, ns[i].f2, r, ns[i].f4⟩) := by
  obtain ⟨g, cap, rfl, hb, hl, hc⟩ := Kd.S_form h (by omega)
  obtain ⟨oki, c, hcl, hM, hcc, _, hok, hH⟩ := Kd.S_elem h z38 (i : Int) (by omega) (by omega)
  have hx : ns.getD (i : Int).toNat z38 = ns[i] := by simp [List.getD_eq_getElem?_getD, List.getElem?_eq_getElem hi]
  rw [hx] at hM
  obtain ⟨v3, rfl, hv3⟩ := k38_openM hM
  obtain ⟨A3, c3, rfl, _, _⟩ := Kd.R_reads hv3
  refine ⟨g, cap, A3, c3, oki, rfl, hcc 3 _ rfl, hv3, hok, fun w1 r hk hr => ?_⟩
  have h2 := Kd.H_kept (Kd.H_widen hH) hk (fun k _ hn hs => hn (.inl hs))
  exact Kd.H_back (okp := fun k => oki k ∨ W.heap.size ≤ k) h2 (k38_mkM _ _ _ (⟨ns[i].f0, ns[i].f1, ns[i].f2, r, ns[i].f4⟩ : S38) hr) (fun k hk => hk.elim .inl (fun h3 => .inr ⟨hfr k h3, h3⟩))
/-- Node i's parent, written over. -/
theorem S_atP {W : World} {base : Nat} {ok : Nat → Prop} {v : Value} {ns : List S38} (h : Kd.S k38 38 W base ok v ns) (i : Nat) (hi : i < ns.length) :
    ∃ g cap, v = .slice (some ⟨g, 0, none⟩) ns.length cap ∧ base ≤ g ∧ ok g ∧ W.cell? ⟨g, i * 5 + 4, none⟩ = some (.int .i64 ns[i].f4) ∧ W.frozen? ⟨g, i * 5 + 4, none⟩ = false ∧
      ∀ p : Int, Kd.S k38 38 (W.setCell ⟨g, i * 5 + 4, none⟩ (.int .i64 p)) base ok v (ns.set i ⟨ns[i].f0, ns[i].f1, ns[i].f2, ns[i].f3, p⟩) := by
  have hok0 := (Kd.S_R h).1
  obtain ⟨g, cap, rfl, hb, hl, hc⟩ := Kd.S_form h (by omega)
  obtain ⟨oki, c, hcl, hM, hcc, hfr, hok, hH⟩ := Kd.S_elem h z38 (i : Int) (by omega) (by omega)
  have hx : ns.getD (i : Int).toNat z38 = ns[i] := by simp [List.getD_eq_getElem?_getD, List.getElem?_eq_getElem hi]
  rw [hx] at hM
  obtain ⟨v3, rfl, hv3⟩ := k38_openM hM
  refine ⟨g, cap, rfl, hb, hok0 g rfl, hcc 4 _ rfl, hfr 4, fun p => ?_⟩
  have hS := Kd.S_seg (okg := fun _ => False) (ok := ok) (seg := [.int .i64 p]) (j := 4) (x' := (⟨ns[i].f0, ns[i].f1, ns[i].f2, ns[i].f3, p⟩ : S38)) (okp := oki) (Kd.H_mono hH (fun k hk => ⟨hk, fun h => h⟩)) (by omega) (by omega) (show 5 ≤ 5 by decide)
    (k38_mkM _ _ _ (⟨ns[i].f0, ns[i].f1, ns[i].f2, ns[i].f3, p⟩ : S38) hv3) (fun k hk => .inl hk) (fun _ hk => hk.elim)
  exact hS.1
theorem sp_next {xs : List S38} {k : Nat} (h : ∀ j (hj : j < xs.length), k ≤ j → SpAt xs[j].f3) {y : S38} (z : S38) : ∀ j (hj : j < ((xs.set k y).set k z).length), k + 1 ≤ j → SpAt ((xs.set k y).set k z)[j].f3 := by
  intro j hj hk
  rw [List.length_set, List.length_set] at hj
  rw [List.getElem_set_ne (by omega), List.getElem_set_ne (by omega)]
  exact h j hj (by omega)
set_option maxHeartbeats 3200000 in
set_option maxRecDepth 100000 in
theorem spoil_calls (w0 w : World) (P0 : Nat → Prop) (v : Value) (ns : List S38) (hB : Below w0.heap.size w0 w) (hS : Kd.S k38 38 w w0.heap.size P0 v ns) (hN : ∀ x ∈ ns, SpAt x.f3) :
    Calls Try.prog 14 #[v] w fun e w' => e = .returned (.tuple #[]) ∧ Below w0.heap.size w0 w' ∧ Kept w w' P0 := by
  have HS0 := Aside0.mk (Kd.S_mono (ok' := fun k => P0 k ∨ w.heap.size ≤ k) hS (fun k hk => .inl hk))
  have HB0 := Aside0.mk hB
  have HK0 := Aside0.mk (Kept.refl w P0)
  have HN0 := Aside0.mk (show ∀ j (h : j < ns.length), 0 ≤ j → SpAt ns[j].f3 from fun j h _ => hN _ (List.getElem_mem h))
  obtain ⟨A, c, rfl, hc, hC⟩ := Kd.S_reads hS
  have hm := hC.2.1
  obtain ⟨n, hn⟩ : ∃ n, ns.length = n := ⟨_, rfl⟩
  have HL := Aside0.mk hn
  rw [hn] at hm HS0 ⊢
  clear hS hB hN hC hc hn
  go_enter Try.func14, Try.ntmps14
  go_wp2
  go_loopw [2] (fun i wr => ∃ (k : Nat) (xs : List S38), k ≤ n ∧ i = .int .i64 k ∧ Aside0 (xs.length = n) ∧ Aside0 (∀ j (h : j < xs.length), k ≤ j → SpAt xs[j].f3) ∧ Aside0 (Kd.S k38 38 wr w0.heap.size (fun k => P0 k ∨ w.heap.size ≤ k) (.slice A n c) xs) ∧ Aside0 (Below w0.heap.size w0 wr) ∧ Aside0 (Kept w wr P0))
    (fun i _ => n - (RowKit.intOf i).toNat)
  case atStart => exact ⟨0, ns, Nat.zero_le _, rfl, HL, HN0, HS0, HB0, HK0⟩
  case round =>
    clear HL HN0 HS0 HB0 HK0
    obtain ⟨k, xs, hk, rfl, HL, HN, HS, HB, HK⟩ := hrel
    by_cases hlt : k < n
    · have hkx : k < xs.length := by rw [HL.out]; exact hlt
      obtain ⟨g, cap, A3, c3, oki, e, c3c, hR, hoki, hback⟩ := S_lendA HS.out k hkx (fun k hk => .inr (Nat.le_trans HK.out.1 hk))
      rw [HL.out] at e
      cases e
      obtain ⟨kk, r, hr⟩ := spoil_some _ (HN.out k hkx (Nat.le_refl _))
      have HSA := Aside0.mk (stolelaw0_SpoilAttrs.calls kk oki _ _ r w0 wr HB.out hR hr)
      have HOK := Aside0.mk hoki
      have HBK := Aside0.mk (fun w1 => hback w1 r)
      obtain ⟨m3, hm3⟩ : ∃ m3, xs[k].f3.length = m3 := ⟨_, rfl⟩
      rw [hm3] at c3c HSA HBK
      clear hR hr hoki hback hm3
      have HN2 := Aside0.mk (sp_next HN.out (y := ⟨xs[k].f0, xs[k].f1, xs[k].f2, r, xs[k].f4⟩))
      obtain ⟨y, hy⟩ : ∃ y : S38, (⟨xs[k].f0, xs[k].f1, xs[k].f2, r, xs[k].f4⟩ : S38) = y := ⟨_, rfl⟩
      rw [hy] at HBK HN2
      clear hy
      go_wp2_with (go_at_call 27; refine HSA.out.mono ?_; rintro e w2 ⟨rfl, hR2, hB2, hK2⟩; have hS2 := HBK.out w2 hK2 hR2; have n0 := Aside0.mk (HK.out.then_ hK2 (fun q hq => (HOK.out q hq).1)); clear HK hK2 HOK hR2 HBK HSA HS HB; have HK := n0; clear n0; have HB := Aside0.mk hB2; clear hB2; obtain ⟨g', cap', e', hb', hg', c4, f4, hset⟩ := S_atP hS2 k (by rw [List.length_set]; exact hkx); rw [List.length_set, HL.out] at e'; cases e'; obtain ⟨p4, hp4⟩ : ∃ p4, ((xs.set k y)[k]'(by rw [List.length_set]; exact hkx)).f4 = p4 := ⟨_, rfl⟩; rw [hp4] at c4; have HSET := Aside0.mk hset; have HGB := Aside0.mk hb'; have HGP := Aside0.mk hg'; clear hset hS2 hp4 hb' hg')
      go_roundw
      case rel => exact ⟨k + 1, _, by omega, by go_num, ⟨by rw [List.length_set, List.length_set]; exact HL.out⟩, ⟨HN2.out _⟩, ⟨HSET.out _⟩, ⟨HB.out.setCell HGB.out _⟩, ⟨HK.out.setCell HGP.out _⟩⟩
      case measure => simp [RowKit.intOf]; omega
    · obtain rfl : k = n := by omega
      have hz : ¬ ((k : Int) < (k : Int)) := by omega
      clear hlt hk hm
      go_wp2
      go_end0
      exact ⟨rfl, HB.out, HK.out⟩
end Go.Proofs.Ytkhgnaakcaghjaa.Tr
