/- stolelaw7.Trees: walked. -/
import Derived.Test.YtkhgnaakcaghjaaTrSpoil
import Derived.Test.YtkhgnaakcaghjaaTrExt
import Derived.Test.YtkhgnaakcaghjaaXB1
import Derived.Test.YtkhgnaakcaghjaaXA2
import Derived.Deep.DeepCutAuto
namespace Go.Proofs.Ytkhgnaakcaghjaa.Tr
open Go.RowKit Go.Proofs.Ytkhgnaakcaghjaa.XA Go.Proofs.Ytkhgnaakcaghjaa.Base Go.Proofs.Ytkhgnaakcaghjaa.Ext Go.Proofs.YtkhgnaakcaghjaaW.PrintWords Go.Proofs.YtkhgnaakcaghjaaW.PrintLast Go.Proofs.YtkhgnaakcaghjaaW.PrintMore
attribute [local go_sem ↓] Go.wp_at_zero Go.wp_at_succ
set_option linter.unusedVariables false
set_option linter.unusedSimpArgs false

theorem copy_ev (l : List S41) (hl : l.length ≤ 1048576) (ha : ∀ x ∈ l, SpAt x.f3) : ∀ d i, i + d = l.length → Ev (fun k => stolelaw0_CopyTokens.l0 k l (l.take i) (i : Int)) l := by
  intro d
  induction d with
  | zero =>
    intro i hi
    refine Ev.step (f := fun k => _) (fun k => by rw [stolelaw0_CopyTokens.l0]) ?_
    rw [List.take_of_length_le (by omega)]
    exact Ev.neg (by omega) (Ev.now _)
  | succ d ih =>
    intro i hi
    have hlt : i < l.length := by omega
    have e : rd_T41 l (i : Int) = l[i] := by simp [rd_T41, List.getD_eq_getElem?_getD, List.getElem?_eq_getElem hlt]
    have hA := (ha _ (List.getElem_mem hlt)).1
    have h := ih (i + 1) (by omega)
    rw [List.take_succ_eq_append_getElem hlt] at h
    have htl : (l.take i).length ≤ 1048576 := by rw [List.length_take]; omega
    refine Ev.step (f := fun k => _) (fun k => by rw [stolelaw0_CopyTokens.l0]) ?_
    rw [e]
    refine Ev.pos (by omega) (Ev.pos (by omega) (Ev.bindC rfl (Ev.pos (by rw [List.length_nil]; omega) (Ev.pos (by omega) ?_))))
    rw [wrap_next (n := 2000000) (by omega) (by decide)]
    exact h
theorem copy_some (l : List S41) (hl : l.length ≤ 1048576) (ha : ∀ x ∈ l, SpAt x.f3) : ∃ k, stolelaw0_CopyTokens.f k l = some l := by
  obtain ⟨n, hn⟩ := copy_ev l hl ha l.length 0 (by omega)
  exact ⟨n, hn n (Nat.le_refl _)⟩
theorem stepF_all (Q : List S48 → Prop) (h0 : Q []) (ns : List S38) (op : List Int) (t : S41) (ht : Q t.f3) (hn : ∀ x ∈ ns, Q x.f3) : ∀ x ∈ (stepF ns op t).1, Q x.f3 := by
  intro x hx
  unfold stepF at hx
  have ap : ∀ y : S38, Q y.f3 → ∀ x ∈ ns ++ [y], Q x.f3 := fun y hy x hx => by
    rcases List.mem_append.1 hx with hx | hx
    · exact hn x hx
    · obtain rfl := List.mem_singleton.1 hx; exact hy
  split at hx
  · simp only at hx
    unfold textF at hx
    split at hx
    · rename_i l hl
      split at hx
      · rcases List.mem_or_eq_of_mem_set hx with hx | hx
        · exact hn x hx
        · rw [hx]; exact hn l (List.mem_of_getLast? hl)
      · split at hx
        · exact hn x hx
        · exact ap _ h0 x hx
    · exact hn x hx
  split at hx
  · exact ap _ h0 x hx
  split at hx
  · exact ap _ ht x hx
  · exact hn x hx
theorem runF_all (Q : List S48 → Prop) (h0 : Q []) : ∀ (ts : List S41) (ns : List S38) (op : List Int) (r : List S38), (∀ t ∈ ts, Q t.f3) → (∀ x ∈ ns, Q x.f3) → runF ts ns op = some r → ∀ x ∈ r, Q x.f3 := by
  intro ts
  induction ts with
  | nil => intro ns op r _ hn hr; obtain rfl := Option.some.inj hr; exact hn
  | cons t ts ih =>
    intro ns op r ht hn hr
    rw [runF] at hr
    split at hr
    · cases hr
    · exact ih _ _ r (fun y hy => ht y (List.mem_cons_of_mem _ hy)) (stepF_all Q h0 ns op t (ht t List.mem_cons_self) hn) hr
theorem build_sp (ts : List S41) (h : ∀ x ∈ ts, SpAt x.f3) : ∀ x ∈ (buildF ts).1, SpAt x.f3 := by
  have h0 : SpAt [] := ⟨Nat.zero_le _, fun a ha => by cases ha⟩
  unfold buildF
  split
  · cases hr : runF ts [root] [0] with
    | none => intro x hx; cases hx
    | some r => exact runF_all SpAt h0 ts [root] [0] r h (fun x hx => by obtain rfl := List.mem_singleton.1 hx; exact h0) hr
  · intro x hx; cases hx
theorem sameN_self (ns : List S38) : allEq nodeEq ns ns = true := (allEq_eq nodeEq_iff).2 rfl
theorem sameT_self (ts : List S41) : allEq tokEq ts ts = true := (allEq_eq tokEq_iff).2 rfl
theorem sn_calls {ns : List S38} {A B : Option Addr} {n c d b1 b2 : Nat} {ok1 ok2 : Nat → Prop} {w : World} (hn : ns.length = n) (ha : Kd.S k38 38 w b1 ok1 (.slice A n c) ns) (hb : Kd.S k38 38 w b2 ok2 (.slice B n d) ns) (h4 : ∀ x ∈ ns, x.f3.length ≤ 4611686018427387904) :
    Calls Try.prog 11 #[.slice A n c, .slice B n d] w fun e w' => e = .returned (.bool true) ∧ Drawn0 w w' := by
  subst hn
  have := sameN_calls ns ns A B c d w (Kd.S_reads' ha).2.2 (Kd.S_reads' hb).2.2 h4
  rwa [sameN_self] at this
theorem st_calls {l : List S41} {A B : Option Addr} {n c d b1 : Nat} {ok1 : Nat → Prop} {w : World} (hn : l.length = n) (ha : Kd.S k41 41 w b1 ok1 (.slice A n c) l) (hb : Kd.C k41 w B l.length l) (h4 : ∀ x ∈ l, x.f3.length ≤ 4611686018427387904) :
    Calls Try.prog 13 #[.slice A n c, .slice B n d] w fun e w' => e = .returned (.bool true) ∧ Drawn0 w w' := by
  subst hn
  have := sameT_calls l l A B c d w (Kd.S_reads' ha).2.2 hb h4
  rwa [sameT_self] at this
set_option maxHeartbeats 6400000 in
set_option maxRecDepth 100000 in
theorem trees_calls (l : List S41) (A : Option Addr) (c : Nat) (w : World) (hC : Kd.C k41 w A l.length l) (hc : l.length ≤ c) (b1 : toks l ≤ 1048576) (b2 : l.length ≤ 1048576) (b3 : ∀ x ∈ l, x.f3.length ≤ 1048576 ∧ ∀ a ∈ x.f3, a.f0.size ≤ 1048576) :
    Calls Try.prog 3 #[.slice A l.length c] w fun e w' => e = .returned (.bool true) ∧ Below w.heap.size w w' := by
  obtain ⟨kc, hkc⟩ := copy_some l b2 b3
  have HCP := Aside0.mk (stolelaw0_CopyTokens.calls kc A c l l w hC hc hkc)
  have HC := Aside0.mk hC
  have HT := Aside0.mk (show toks l ≤ 4611686018427387904 by omega)
  have HSP := Aside0.mk (build_sp l b3)
  have H3 := Aside0.mk (show ∀ x ∈ l, x.f3.length ≤ 4611686018427387904 from fun x hx => by have := (b3 x hx).1; omega)
  obtain ⟨ns, hns⟩ : ∃ ns, (buildF l).1 = ns := ⟨_, rfl⟩
  obtain ⟨er, her⟩ : ∃ er, (buildF l).2 = er := ⟨_, rfl⟩
  rw [hns] at HSP
  have H4 := Aside0.mk (show ∀ x ∈ ns, x.f3.length ≤ 4611686018427387904 from fun x hx => by have := (HSP.out x hx).1; omega)
  obtain ⟨m, hm⟩ : ∃ m, l.length = m := ⟨_, rfl⟩
  obtain ⟨n, hn⟩ : ∃ n, ns.length = n := ⟨_, rfl⟩
  have HM := Aside0.mk hm
  have HN := Aside0.mk hn
  have HNS := Aside0.mk hns
  have HER := Aside0.mk her
  rw [hm] at HCP ⊢
  clear hC hc b1 b2 b3 hkc hns her hm hn
  go_enter Try.func3, Try.ntmps3
  go_upto_region 4 with (first
    | (go_at_call 8; refine HCP.out.mono ?_; rintro e w1 ⟨v1, rfl, hS1, hb1⟩; obtain ⟨A1, c1, e1⟩ := Kd.S_slice hS1; rw [HM.out] at e1; subst e1; have HS1 := Aside0.mk hS1; have HB1 := Aside0.mk hb1; clear hS1 hb1 HCP; have HBD := Aside0.mk (build_calls l A1 c1 w1 (Kd.S_reads' HS1.out).2.2 HT.out); rw [HM.out] at HBD)
    | (go_at_call 9; refine HBD.out.mono ?_; rintro e w2 ⟨v2, rfl, hS2, hb2⟩; rw [HNS.out] at hS2; obtain ⟨A2, c2, e2⟩ := Kd.S_slice hS2; rw [HN.out] at e2; subst e2; rw [HER.out]; have HS2 := Aside0.mk hS2; have HB2 := Aside0.mk hb2; clear hS2 hb2 HBD; have HRB := Aside0.mk (rbuild_calls l A c w2 (Kd.C_below (Kd.C_below HC.out HB1.out) HB2.out) HT.out); rw [HM.out] at HRB)
    | (go_at_call 10; refine HRB.out.mono ?_; rintro e w3 ⟨v3, rfl, hS3, hb3⟩; rw [HNS.out] at hS3; obtain ⟨A3, c3, e3⟩ := Kd.S_slice hS3; rw [HN.out] at e3; subst e3; rw [HER.out]; have HS3 := Aside0.mk hS3; have HB3 := Aside0.mk hb3; clear hS3 hb3 HRB))
  have HX3 := Aside0.mk (Kd.S_below (Kd.S_below HS1.out HB2.out) HB3.out)
  have HA3 := Aside0.mk (Kd.S_below HS2.out HB3.out)
  have HL3 := Aside0.mk (Kd.C_below (Kd.C_below (Kd.C_below HC.out HB1.out) HB2.out) HB3.out)
  have HSN := Aside0.mk (fun (W : World) (hW : Below w3.heap.size w3 W) => sn_calls (A := A2) (B := A3) (c := c2) (d := c3) HN.out (Kd.S_below HA3.out hW) (Kd.S_below HS3.out hW) H4.out)
  have HST := Aside0.mk (fun (W : World) (hW : Below w3.heap.size w3 W) => st_calls (A := A1) (B := A) (c := c1) (d := c) HM.out (Kd.S_below HX3.out hW) (Kd.C_below HL3.out hW) H3.out)
  have hbx : Below w3.heap.size w3 w3 := Below.refl _ _
  go_cut [37] (fun v37 wc => v37 = .bool false ∧ Aside0 (Below w3.heap.size w3 wc))
  case first =>
    go_wp2_with (first
      | (go_at_call 11; refine (HSN.out _ hbx).mono ?_; rintro e w4 ⟨rfl, hd⟩; have hby := hbx.trans (hd.below.mono hbx.size); clear hbx hd; have hbx := hby; clear hby)
      | (go_at_call 13; refine (HST.out _ hbx).mono ?_; rintro e w4 ⟨rfl, hd⟩; have hby := hbx.trans (hd.below.mono hbx.size); clear hbx hd; have hbx := hby; clear hby)
      | (go_at_call 12; refine (stolelaw0_Num.calls _ _ _ rfl).mono ?_; rintro e w4 ⟨rfl, hd⟩; have hby := hbx.trans (hd.below.mono hbx.size); clear hbx hd; have hbx := hby; clear hby))
    go_meet
    exact ⟨rfl, ⟨hbx⟩⟩
  case rest =>
    obtain ⟨rfl, HB4⟩ := hcut
    clear hbx HSN HST
    have HA4 := Aside0.mk (Kd.S_mono (ok' := fun k => w1.heap.size ≤ k ∧ k < w2.heap.size) (Kd.S_bound HS2.out) (fun k hk => ⟨hk.2.1, hk.2.2.1⟩))
    have HA5 := Aside0.mk (Kd.S_below (Kd.S_below HA4.out HB3.out) HB4.out)
    have HB5 := Aside0.mk ((HB2.out.trans (HB3.out.mono HB2.out.size)).trans (HB4.out.mono (Nat.le_trans HB2.out.size HB3.out.size)))
    have HSPc := Aside0.mk (spoil_calls w1 wc _ _ ns HB5.out HA5.out HSP.out)
    have HS4 := Aside0.mk (Kd.S_mono (ok' := fun k => w2.heap.size ≤ k) (Kd.S_bound (Kd.S_below HS3.out HB4.out)) (fun k hk => hk.2.1))
    clear HA3 HA4 HA5 HB5 HX3 HL3
    have HAw := Aside0.mk (fun W : World => XB.stolelaw7_awake.calls true W (by decide +kernel))
    go_wp2_with (first
      | (go_at_call 14; refine HSPc.out.mono ?_; rintro e w5 ⟨rfl, hb5, hk5⟩; have HX5 := Aside0.mk (Kd.S_below HS1.out hb5); have HL5 := Aside0.mk (Kd.C_below (Kd.C_below HC.out HB1.out) hb5); have HV5 := Aside0.mk (Kd.S_kept HS4.out hk5 (fun k hk h2 => by omega)); have HB5 := Aside0.mk (HB1.out.trans (hb5.mono HB1.out.size)); clear hb5 hk5 HSPc; have HBD := Aside0.mk (build_calls l A1 c1 w5 (Kd.S_reads' HX5.out).2.2 HT.out); rw [HM.out] at HBD)
      | (go_at_call 9; refine HBD.out.mono ?_; rintro e w6 ⟨v6, rfl, hS6, hb6⟩; rw [HNS.out] at hS6; obtain ⟨A6, c6, e6⟩ := Kd.S_slice hS6; rw [HN.out] at e6; subst e6; rw [HER.out]; have HSN := Aside0.mk (fun (W : World) (hW : Below w6.heap.size w6 W) => sn_calls (A := A6) (B := A3) (c := c6) (d := c3) HN.out (Kd.S_below hS6 hW) (Kd.S_below (Kd.S_below HV5.out hb6) hW) H4.out); have HST := Aside0.mk (fun (W : World) (hW : Below w6.heap.size w6 W) => st_calls (A := A1) (B := A) (c := c1) (d := c) HM.out (Kd.S_below (Kd.S_below HX5.out hb6) hW) (Kd.C_below (Kd.C_below HL5.out hb6) hW) H3.out); have HB6 := Aside0.mk (HB5.out.trans (hb6.mono HB5.out.size)); have hbx : Below w6.heap.size w6 w6 := Below.refl _ _; clear hS6 hb6 HBD HX5 HL5 HV5)
      | (go_at_call 11; refine (HSN.out _ hbx).mono ?_; rintro e w7 ⟨rfl, hd⟩; have hby := hbx.trans (hd.below.mono hbx.size); clear hbx hd; have hbx := hby; clear hby)
      | (go_at_call 13; refine (HST.out _ hbx).mono ?_; rintro e w7 ⟨rfl, hd⟩; have hby := hbx.trans (hd.below.mono hbx.size); clear hbx hd; have hbx := hby; clear hby)
      | (go_at_call 15; refine (HAw.out _).mono ?_; rintro e w7 ⟨rfl, hd⟩; have hby := hbx.trans (hd.mono hbx.size); clear hbx hd; have hbx := hby; clear hby))
    go_ret
    exact ⟨rfl, HB6.out.trans (hbx.mono HB6.out.size)⟩
end Go.Proofs.Ytkhgnaakcaghjaa.Tr
