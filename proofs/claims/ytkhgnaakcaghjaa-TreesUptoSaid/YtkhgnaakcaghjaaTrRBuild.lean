/- stoleref5.Build: walked: the same plain function. -/
import Derived.Test.YtkhgnaakcaghjaaTrRMay
namespace Go.Proofs.Ytkhgnaakcaghjaa.Tr
open Go.RowKit Go.Proofs.Ytkhgnaakcaghjaa.XA Go.Proofs.Ytkhgnaakcaghjaa.Base Go.Proofs.YtkhgnaakcaghjaaW.PrintWords Go.Proofs.YtkhgnaakcaghjaaW.PrintLast Go.Proofs.YtkhgnaakcaghjaaW.PrintMore
attribute [local go_sem ↓] Go.wp_at_zero Go.wp_at_succ
set_option linter.unusedVariables false
set_option linter.unusedSimpArgs false

theorem may_kind {t : S41} (h : mayB t = true) : t.f0 = 0 ∨ t.f0 = 3 ∨ t.f0 = 1 ∨ t.f0 = 2 := by
  unfold mayB at h
  by_cases h1 : t.f0 = 1
  · exact .inr (.inr (.inl h1))
  rw [if_neg h1] at h
  by_cases h2 : t.f0 = 2
  · exact .inr (.inr (.inr h2))
  rw [if_neg h2] at h
  by_cases h3 : t.f0 = 0 ∨ t.f0 = 3
  · exact h3.elim .inl (fun h => .inr (.inl h))
  rw [if_neg h3] at h
  cases h
/-- One token, whichever. -/
theorem rtoken_calls (w0 w : World) (b : Nat) (ns : List S38) (op : List Int) (m : Nat) (t : S41) (A : Option Addr) (c : Nat)
    (hB : Below w0.heap.size w0 w) (hI : Bd 62 w w0.heap.size b (fun _ => True) ns op) (G : Good ns op m) (hm : mayB t = true) (hsz : m + t.f2.size ≤ 9223372036854775807) (hC : Kd.C k48 w A t.f3.length t.f3) :
    Calls Try.prog 25 #[.pointer (some ⟨b, 0, none⟩), .agg #[.int .i64 t.f0, .string t.f1, .string t.f2, .slice A t.f3.length c, .bool t.f4]] w fun e w' => e = .returned (.tuple #[]) ∧
      Bd 62 w' w0.heap.size b (fun _ => True) (stepF ns op t).1 (stepF ns op t).2 ∧ Below w0.heap.size w0 w' := by
  have hN := G.ns1
  have hO := G.op1
  rcases may_kind hm with h | h | h | h
  · unfold stepF; rw [if_pos h, h]
    exact rtext_calls w0 w b ns op t.f1 t.f2 t.f3 t.f4 A c hB hI G.ns0 G.op0 (by omega) (by omega) (fun l hl => by have := getLast_mem_texts ns l hl; have := G.tx; omega) hC
  · unfold stepF; rw [if_neg (by omega), if_pos h, h]
    exact rcomm_calls w0 w b ns op t.f1 t.f2 t.f3 t.f4 A c hB hI G.ns0 G.op0 (by omega) (by omega) hC
  · have hl := may_attrs hm h
    unfold stepF; rw [if_neg (by omega), if_neg (by omega), if_pos h, h]
    exact rstart_calls w0 w b ns op t.f1 t.f2 t.f3 t.f4 A c hB hI G.ns0 G.op0 (by omega) (by omega) (by omega) hC
  · unfold stepF; rw [if_neg (by omega), if_neg (by omega), if_neg (by omega), h]
    exact rend_calls w0 w b ns op t.f1 t.f2 t.f3 t.f4 A c hB hI G.ns0 G.op0 (by omega) (by omega) G.ok hC
theorem rmay_calls (t : S41) (A : Option Addr) (c : Nat) (w : World) (hC : Kd.C k48 w A t.f3.length t.f3) (hl : t.f3.length ≤ c) :
    Calls Try.prog 24 #[.agg #[.int .i64 t.f0, .string t.f1, .string t.f2, .slice A t.f3.length c, .bool t.f4]] w fun e w' => e = .returned (.bool (mayB t)) ∧ Below w.heap.size w w' := by
  obtain ⟨k, hk⟩ := (may_ev t).rounds
  exact stoleref5_tokenMay.calls k t.f0 t.f1 t.f2 A c t.f3 t.f4 _ w hC hl hk

set_option maxHeartbeats 6400000 in
set_option maxRecDepth 100000 in
theorem rbuild_calls (ts : List S41) (A : Option Addr) (c : Nat) (w : World) (hC : Kd.C k41 w A ts.length ts) (hsz : toks ts ≤ 4611686018427387904) :
    Calls Try.prog 10 #[.slice A ts.length c] w (BuildP ts w) := by
  have HC := Aside0.mk hC
  have HL := Aside0.mk hC.2.1
  have HSZ := Aside0.mk hsz
  have hu := Try.underlying41
  clear hC hsz
  go_enter Try.func10, Try.ntmps10
  go_wp2
  go_loopw [4] (fun i wr => ∃ k : Nat, k ≤ ts.length ∧ i = .int .i64 k ∧ Aside0 ((ts.take k).all mayB = true) ∧ Aside0 (Below w.heap.size w wr))
    (fun i _ => ts.length - (RowKit.intOf i).toNat)
  case atStart => exact ⟨0, Nat.zero_le _, rfl, ⟨rfl⟩, ⟨Below.refl _ _⟩⟩
  case round =>
    obtain ⟨k, hk, rfl, HM, HB⟩ := hrel
    have hm := HL.out
    by_cases hlt : k < ts.length
    · obtain ⟨ad, A3, c3, e, g0, g1, g2, g3, g4, g5, g6, g7⟩ := tok_at HC.out k hlt
      cases e
      have HMy := Aside0.mk (rmay_calls ts[k] A3 c3 wr (Kd.C_below g6 HB.out) g5)
      replace g0 := pw_cell_below HB.out g0
      replace g1 := pw_cell_below HB.out g1
      replace g2 := pw_cell_below HB.out g2
      replace g3 := pw_cell_below HB.out g3
      replace g4 := pw_cell_below HB.out g4
      obtain ⟨t, ht⟩ : ∃ t, ts[k] = t := ⟨_, rfl⟩
      have HTK := Aside0.mk ht
      rw [ht] at HMy g0 g1 g2 g3 g4
      clear g5 g6 g7 ht
      by_cases hq : mayB t = true
      · rw [hq] at HMy
        have HM2 := Aside0.mk (all_take_snoc hlt HM.out (by rw [HTK.out]; exact hq))
        clear hq
        go_wp2_with (go_at_call 24; refine HMy.out.mono ?_; rintro e w2 ⟨rfl, hb2⟩)
        have HB2 := Aside0.mk (HB.out.trans (hb2.mono HB.out.size))
        clear hb2
        go_wp2
        go_roundw
        case rel => exact ⟨k + 1, by omega, by go_num, HM2, HB2⟩
        case measure => simp [RowKit.intOf]; omega
      · have hq : mayB t = false := by simpa using hq
        rw [hq] at HMy
        have HM2 := Aside0.mk (all_take_false hlt (by rw [HTK.out]; exact hq))
        clear hq
        go_wp2_with (go_at_call 24; refine HMy.out.mono ?_; rintro e w2 ⟨rfl, hb2⟩)
        have HB2 := Aside0.mk (HB.out.trans (hb2.mono HB.out.size))
        clear hb2
        go_wp2
        have hr : buildF ts = ([], 700) := by unfold buildF; rw [if_neg (by rw [HM2.out]; decide)]
        go_ret2
        exact ⟨.slice none 0 0, by rw [hr]; rfl, by rw [hr]; exact Kd.S_nil _ _ _ _ _, HB2.out⟩
    · have HA := Aside0.mk (show ts.all mayB = true by have := HM.out; rwa [List.take_of_length_le (by omega)] at this)
      have hbd := Bd.new 62 wr w.heap.size HB.out.size
      have HBD := Aside0.mk hbd
      clear hbd HM
      have HB0 := Aside0.mk HB.out.size
      have HBW := Aside0.mk ((((HB.out.alloc HB.out.size (.cells #[.int .i64 0, .string ⟨#[]⟩, .string ⟨#[]⟩, .slice none 0 0, .int .i64 (-1)] 38)).alloc (by rw [World.size_alloc]; have := HB.out.size; omega) (.cells #[.int .i64 0] 3)).alloc (by rw [World.size_alloc, World.size_alloc]; have := HB.out.size; omega) (.cells #[.slice (some ⟨wr.heap.size, 0, none⟩) 1 1, .slice (some ⟨wr.heap.size + 1, 0, none⟩) 1 1] 62)))
      obtain ⟨b, hb⟩ : ∃ b, wr.heap.size + 2 = b := ⟨_, rfl⟩
      rw [hb] at HBD
      have hres : ∃ R, runF ts [root] [0] = R := ⟨_, rfl⟩
      obtain ⟨R, hR⟩ := hres
      have HRes := Aside0.mk (show buildF ts = resF R by unfold buildF; rw [if_pos HA.out, hR])
      have HR0 := Aside0.mk hR
      clear hR HB
      go_wp2
      clear hb
      go_loopw [6] (fun i wx => ∃ (k : Nat) (ns : List S38) (op : List Int), k ≤ ts.length ∧ i = .int .i64 k ∧ Aside0 (runF (ts.drop k) ns op = R) ∧ Aside0 (Good ns op (toks (ts.take k))) ∧ Aside0 (Bd 62 wx w.heap.size b (fun _ => True) ns op) ∧ Aside0 (Below w.heap.size w wx))
        (fun i _ => ts.length - (RowKit.intOf i).toNat)
      case atStart => exact ⟨0, [root], [0], Nat.zero_le _, rfl, HR0, ⟨good_root⟩, HBD, HBW⟩
      case round =>
        clear HR0 HBD HBW HB0 hlt hk hm
        obtain ⟨k, ns, op, hk, rfl, HRun, HG, HBD, HB⟩ := hrel
        have hm := HL.out
        by_cases hlt : k < ts.length
        · obtain ⟨ad, A3, c3, e, g0, g1, g2, g3, g4, g5, g6, g7⟩ := tok_at HC.out k hlt
          cases e
          obtain ⟨t, ht⟩ : ∃ t, ts[k] = t := ⟨_, rfl⟩
          have htm : mayB t = true := by
            have := HA.out
            rw [List.all_eq_true] at this
            rw [← ht]; exact this _ (List.getElem_mem hlt)
          have hsize : toks (ts.take (k + 1)) = toks (ts.take k) + t.f2.size := by rw [toks_take ts k hlt, ht]
          have hsize2 := toks_le ts (k + 1)
          rw [ht] at g0 g1 g2 g3 g4 g5 g6
          obtain ⟨p, hp⟩ : ∃ p, ad.add (k * 5) = p := ⟨_, rfl⟩
          rw [hp] at g0 g1 g2 g3 g4 g7
          have HTk := Aside0.mk (rtoken_calls w wr b ns op (toks (ts.take k)) t A3 c3 HB.out HBD.out HG.out htm (by have := HSZ.out; omega) (Kd.C_below g6 HB.out))
          replace g0 := pw_cell_below HB.out g0
          replace g1 := pw_cell_below HB.out g1
          replace g2 := pw_cell_below HB.out g2
          replace g3 := pw_cell_below HB.out g3
          replace g4 := pw_cell_below HB.out g4
          have hdrop : ts.drop k = t :: ts.drop (k + 1) := by rw [List.drop_eq_getElem_cons hlt, ht]
          have G := HG.out
          have HRun2 := Aside0.mk (show (if (stepF ns op t).1.length > 4096 then none else runF (ts.drop (k + 1)) (stepF ns op t).1 (stepF ns op t).2) = R by have := HRun.out; rw [hdrop] at this; exact this)
          have HG2 := Aside0.mk (fun h => (hsize ▸ good_step G t h : Good (stepF ns op t).1 (stepF ns op t).2 (toks (ts.take (k + 1)))))
          obtain ⟨ns', hns'⟩ : ∃ x, (stepF ns op t).1 = x := ⟨_, rfl⟩
          obtain ⟨op', hop'⟩ : ∃ x, (stepF ns op t).2 = x := ⟨_, rfl⟩
          rw [hns', hop'] at HTk HRun2 HG2
          clear ht htm hsize hsize2 hdrop G HRun HG HBD hns' hop' g5 g6 g7
          have HKp := Aside0.mk (show ∀ w4 : World, Bd 62 w4 w.heap.size b (fun _ => True) ns' op' → ∃ A c, w4.cell? ⟨b, 0, none⟩ = some (.slice A ns'.length c) from fun w4 h => by
            obtain ⟨_, v0, v1, h1, h2, _⟩ := h
            obtain ⟨A, c, rfl⟩ := Kd.S_slice h2
            exact ⟨A, c, (blk_cell h1 0).trans rfl⟩)
          by_cases hfull : ns'.length ≤ 4096
          · have HF := Aside0.mk hfull
            have hf : decide (4096 < (ns'.length : Int)) = false := decide_eq_false (by omega)
            have HRun3 := Aside0.mk (show runF (ts.drop (k + 1)) ns' op' = R by have := HRun2.out; rwa [if_neg (by omega)] at this)
            clear hfull HRun2
            go_wp2_with (go_at_call 25; refine HTk.out.mono ?_; rintro e w4 ⟨rfl, hbd, hb4⟩; have HBD := Aside0.mk hbd; have HB4 := Aside0.mk hb4; obtain ⟨A5, c5, y5⟩ := HKp.out w4 hbd; clear hbd hb4)
            go_wp2
            go_roundw
            case rel => exact ⟨k + 1, ns', op', by omega, by go_num, HRun3, ⟨HG2.out HF.out⟩, HBD, HB4⟩
            case measure => simp [RowKit.intOf]; omega
          · have hf : (4096 : Int) < (ns'.length : Int) := by omega
            have HRun3 := Aside0.mk (show none = R by have := HRun2.out; rwa [if_pos (by omega)] at this)
            clear hfull HRun2
            go_wp2_with (go_at_call 25; refine HTk.out.mono ?_; rintro e w4 ⟨rfl, hbd, hb4⟩; have HBD := Aside0.mk hbd; have HB4 := Aside0.mk hb4; obtain ⟨A5, c5, y5⟩ := HKp.out w4 hbd; clear hbd hb4)
            go_wp2
            have hr : buildF ts = ([], 701) := by rw [HRes.out, ← HRun3.out]; rfl
            go_ret2
            exact ⟨.slice none 0 0, by rw [hr]; rfl, by rw [hr]; exact Kd.S_nil _ _ _ _ _, HB4.out⟩
        · obtain ⟨hb0, v0, v1, hb1, hs, hr⟩ := HBD.out
          obtain ⟨A5, c5, rfl⟩ := Kd.S_slice hs
          have y5 : wr.cell? ⟨b, 0, none⟩ = some (.slice A5 ns.length c5) := (blk_cell hb1 0).trans rfl
          have HS := Aside0.mk hs
          have hr : buildF ts = (ns, 0) := by
            have h := HRun.out
            rw [List.drop_eq_nil_of_le (by omega)] at h
            rw [HRes.out, ← h]; rfl
          have HRR := Aside0.mk hr
          clear hb0 hb1 hs hr HRun
          go_wp2
          go_ret2
          exact ⟨.slice A5 ns.length c5, by rw [HRR.out]; rfl, by rw [HRR.out]; exact HS.out, HB.out⟩
end Go.Proofs.Ytkhgnaakcaghjaa.Tr
