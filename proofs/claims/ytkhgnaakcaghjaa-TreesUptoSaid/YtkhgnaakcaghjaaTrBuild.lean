/- tree.Build: walked. -/
import Derived.Test.YtkhgnaakcaghjaaTrPlain
namespace Go.Proofs.Ytkhgnaakcaghjaa.Tr
open Go.RowKit Go.Proofs.Ytkhgnaakcaghjaa.XA Go.Proofs.YtkhgnaakcaghjaaW.PrintWords Go.Proofs.YtkhgnaakcaghjaaW.PrintLast Go.Proofs.YtkhgnaakcaghjaaW.PrintMore
attribute [local go_sem ↓] Go.wp_at_zero Go.wp_at_succ
set_option linter.unusedVariables false
set_option linter.unusedSimpArgs false

def BuildP (ts : List S41) (w : World) (e : Ending) (w' : World) : Prop :=
  ∃ v, e = .returned (.tuple #[v, .int .i64 (buildF ts).2]) ∧ Kd.S k38 38 w' w.heap.size (fun _ => True) v (buildF ts).1 ∧ Below w.heap.size w w'

/-- The struct at its begin: three new blocks. -/
theorem Bd.new (T : Nat) (W : World) (base : Nat) (hb : base ≤ W.heap.size) :
    Bd T (((W.alloc (.cells #[.int .i64 0, .string ⟨#[]⟩, .string ⟨#[]⟩, .slice none 0 0, .int .i64 (-1)] 38)).alloc (.cells #[.int .i64 0] 3)).alloc (.cells #[.slice (some ⟨W.heap.size, 0, none⟩) 1 1, .slice (some ⟨W.heap.size + 1, 0, none⟩) 1 1] T)) base (W.heap.size + 2) (fun _ => True) [root] [0] := by
  have h1 : Kd.S k38 38 (W.alloc (.cells #[.int .i64 0, .string ⟨#[]⟩, .string ⟨#[]⟩, .slice none 0 0, .int .i64 (-1)] 38)) base (fun _ => True) (.slice (some ⟨W.heap.size, 0, none⟩) 1 1) [root] :=
    Kd.S_bare ⟨fun _ _ => trivial, OwnRow.lit W base (ps := [root]) (inner := [.int .i64 0, .string ⟨#[]⟩, .string ⟨#[]⟩, .slice none 0 0, .int .i64 (-1)]) ⟨rfl, fun j p hp => by
      have hj : j < [root].length := (List.getElem?_eq_some_iff.1 hp).1
      obtain rfl : j = 0 := by simp at hj; omega
      obtain rfl : root = p := by simpa using hp
      exact k38_mkM _ _ _ root (Kd.R_nil _ _ _ _ _)⟩ hb (by decide)⟩
  have h2 : Kd.R (Kd.int .i64) 3 ((W.alloc (.cells #[.int .i64 0, .string ⟨#[]⟩, .string ⟨#[]⟩, .slice none 0 0, .int .i64 (-1)] 38)).alloc (.cells #[.int .i64 0] 3)) base (fun _ => True) (.slice (some ⟨W.heap.size + 1, 0, none⟩) 1 1) [0] := by
    have := OwnRow.lit (R := (Kd.int .i64).M ((W.alloc (.cells #[.int .i64 0, .string ⟨#[]⟩, .string ⟨#[]⟩, .slice none 0 0, .int .i64 (-1)] 38)).alloc (.cells #[.int .i64 0] 3)) base (fun k => True ∧ some k ≠ (Value.slice (some ⟨W.heap.size + 1, 0, none⟩) 1 1).ownBlock)) (e := 3) (size := 1) (W.alloc (.cells #[.int .i64 0, .string ⟨#[]⟩, .string ⟨#[]⟩, .slice none 0 0, .int .i64 (-1)] 38)) base (ps := [0]) (inner := [.int .i64 0]) ⟨rfl, fun j p hp => by
      have hj : j < [(0 : Int)].length := (List.getElem?_eq_some_iff.1 hp).1
      obtain rfl : j = 0 := by simp at hj; omega
      obtain rfl : (0 : Int) = p := by simpa using hp
      rfl⟩ (by simp; omega) (by decide)
    rw [World.size_alloc] at this
    exact ⟨fun _ _ => trivial, this⟩
  refine ⟨by omega, _, _, ?_, Kd.S_alloc (Kd.S_alloc h1 _) _, Kd.R_alloc h2 _⟩
  have := heap_alloc_new ((W.alloc (.cells #[.int .i64 0, .string ⟨#[]⟩, .string ⟨#[]⟩, .slice none 0 0, .int .i64 (-1)] 38)).alloc (.cells #[.int .i64 0] 3)) (.cells #[.slice (some ⟨W.heap.size, 0, none⟩) 1 1, .slice (some ⟨W.heap.size + 1, 0, none⟩) 1 1] T)
  rwa [World.size_alloc, World.size_alloc] at this

/-- One token's call, whichever function it is. -/
def Step (f : FuncId) (args : Array Value) (W : World) (b : Nat) (w : World) (ns : List S38) (op : List Int) : Prop :=
  Calls Try.prog f args w fun e w' => e = .returned (.tuple #[]) ∧ Bd 55 w' W.heap.size b (fun _ => True) ns op ∧ Below W.heap.size W w'

theorem all_take_false {ts : List S41} {k : Nat} (h : k < ts.length) (hm : mayB ts[k] = false) : ts.all mayB = false := by
  rw [Bool.eq_false_iff]
  intro h2
  rw [List.all_eq_true] at h2
  rw [h2 _ (List.getElem_mem h)] at hm
  cases hm
theorem all_take_snoc {ts : List S41} {k : Nat} (h : k < ts.length) (h1 : (ts.take k).all mayB = true) (hm : mayB ts[k] = true) : (ts.take (k + 1)).all mayB = true := by
  rw [List.take_succ_eq_append_getElem h, List.all_append, h1]; simp [hm]
theorem may_attrs {t : S41} (h : mayB t = true) (h1 : t.f0 = 1) : t.f3.length ≤ 32 := by
  unfold mayB at h
  rw [if_pos h1] at h
  simp only [Bool.and_eq_true, attrsOk, decide_eq_true_eq] at h
  exact h.2.2
theorem tok_at {w : World} {A : Option Addr} {ts : List S41} (h : Kd.C k41 w A ts.length ts) (k : Nat) (hk : k < ts.length) :
    ∃ ad A3 c3, A = some ad ∧ w.cell? (ad.add (k * 5)) = some (.int .i64 ts[k].f0) ∧ w.cell? ⟨(ad.add (k * 5)).block, (ad.add (k * 5)).off + 1, none⟩ = some (.string ts[k].f1) ∧ w.cell? ⟨(ad.add (k * 5)).block, (ad.add (k * 5)).off + 2, none⟩ = some (.string ts[k].f2) ∧ w.cell? ⟨(ad.add (k * 5)).block, (ad.add (k * 5)).off + 3, none⟩ = some (.slice A3 ts[k].f3.length c3) ∧ w.cell? ⟨(ad.add (k * 5)).block, (ad.add (k * 5)).off + 4, none⟩ = some (.bool ts[k].f4) ∧ ts[k].f3.length ≤ c3 ∧ Kd.C k48 w A3 ts[k].f3.length ts[k].f3 ∧ (ad.add (k * 5)).block < w.heap.size := by
  obtain ⟨ad, A3, c3, e, g0, g1, g2, g3, g4, g5, g6⟩ := at_T41 h (k : Int) (by omega) (by omega)
  have hx : rd_T41 ts (k : Int) = ts[k] := by simp [rd_T41, List.getD_eq_getElem?_getD, List.getElem?_eq_getElem hk]
  rw [hx] at g0 g1 g2 g3 g4 g5 g6
  rw [Int.toNat_natCast] at g0 g1 g2 g3 g4
  exact ⟨ad, A3, c3, e, g0, g1, g2, g3, g4, g5, g6, World.block_lt_of_cell? _ _ g0⟩

set_option maxHeartbeats 6400000 in
set_option maxRecDepth 100000 in
theorem build_calls (ts : List S41) (A : Option Addr) (c : Nat) (w : World) (hC : Kd.C k41 w A ts.length ts) (hsz : toks ts ≤ 4611686018427387904) :
    Calls Try.prog 9 #[.slice A ts.length c] w (BuildP ts w) := by
  have HC := Aside0.mk hC
  have HL := Aside0.mk hC.2.1
  have HSZ := Aside0.mk hsz
  have hu := Try.underlying41
  clear hC hsz
  go_enter Try.func9, Try.ntmps9
  go_wp2
  go_loopw [10] (fun i wr => ∃ k : Nat, k ≤ ts.length ∧ i = .int .i64 k ∧ Aside0 ((ts.take k).all mayB = true) ∧ Aside0 (Below w.heap.size w wr))
    (fun i _ => ts.length - (RowKit.intOf i).toNat)
  case atStart => exact ⟨0, Nat.zero_le _, rfl, ⟨rfl⟩, ⟨Below.refl _ _⟩⟩
  case round =>
    obtain ⟨k, hk, rfl, HM, HB⟩ := hrel
    have hm := HL.out
    by_cases hlt : k < ts.length
    · obtain ⟨ad, A3, c3, e, g0, g1, g2, g3, g4, g5, g6, g7⟩ := tok_at HC.out k hlt
      cases e
      have HMy := Aside0.mk (may_calls ts[k].f0 ts[k].f1 ts[k].f2 ts[k].f3 ts[k].f4 (ad.add (k * 5)) A3 c3 wr (pw_cell_below HB.out g0) (pw_cell_below HB.out g1) (pw_cell_below HB.out g2) (pw_cell_below HB.out g3) (pw_cell_below HB.out g4) g5 (Kd.C_below g6 HB.out))
      have et : (⟨ts[k].f0, ts[k].f1, ts[k].f2, ts[k].f3, ts[k].f4⟩ : S41) = ts[k] := rfl
      rw [et] at HMy
      clear g0 g1 g2 g3 g4 g5 g6 g7 et
      by_cases hq : mayB ts[k] = true
      · rw [hq] at HMy
        have HM2 := Aside0.mk (all_take_snoc hlt HM.out hq)
        clear hq
        go_wp2_with (go_at_call 19; refine HMy.out.mono ?_; rintro e w2 ⟨rfl, hb2⟩)
        have HB2 := Aside0.mk (HB.out.trans (hb2.mono HB.out.size))
        clear hb2
        go_wp2
        go_roundw
        case rel => exact ⟨k + 1, by omega, by go_num, HM2, HB2⟩
        case measure => simp [RowKit.intOf]; omega
      · have hq : mayB ts[k] = false := by simpa using hq
        rw [hq] at HMy
        have HM2 := Aside0.mk (all_take_false hlt hq)
        clear hq
        go_wp2_with (go_at_call 19; refine HMy.out.mono ?_; rintro e w2 ⟨rfl, hb2⟩)
        have HB2 := Aside0.mk (HB.out.trans (hb2.mono HB.out.size))
        clear hb2
        go_wp2
        have hr : buildF ts = ([], 700) := by unfold buildF; rw [if_neg (by rw [HM2.out]; decide)]
        go_ret2
        exact ⟨.slice none 0 0, by rw [hr]; rfl, by rw [hr]; exact Kd.S_nil _ _ _ _ _, HB2.out⟩
    · have HA := Aside0.mk (show ts.all mayB = true by have := HM.out; rwa [List.take_of_length_le (by omega)] at this)
      have hbd := Bd.new 55 wr w.heap.size HB.out.size
      have HBD := Aside0.mk hbd
      clear hbd HM
      have HB0 := Aside0.mk HB.out.size
      have HBW := Aside0.mk ((((HB.out.alloc HB.out.size (.cells #[.int .i64 0, .string ⟨#[]⟩, .string ⟨#[]⟩, .slice none 0 0, .int .i64 (-1)] 38)).alloc (by rw [World.size_alloc]; have := HB.out.size; omega) (.cells #[.int .i64 0] 3)).alloc (by rw [World.size_alloc, World.size_alloc]; have := HB.out.size; omega) (.cells #[.slice (some ⟨wr.heap.size, 0, none⟩) 1 1, .slice (some ⟨wr.heap.size + 1, 0, none⟩) 1 1] 55)))
      obtain ⟨b, hb⟩ : ∃ b, wr.heap.size + 2 = b := ⟨_, rfl⟩
      rw [hb] at HBD
      have hres : ∃ R, runF ts [root] [0] = R := ⟨_, rfl⟩
      obtain ⟨R, hR⟩ := hres
      have HRes := Aside0.mk (show buildF ts = resF R by unfold buildF; rw [if_pos HA.out, hR])
      have HR0 := Aside0.mk hR
      clear hR HB
      go_wp2
      clear hb
      go_loopw [26] (fun i wx => ∃ (k : Nat) (ns : List S38) (op : List Int), k ≤ ts.length ∧ i = .int .i64 k ∧ Aside0 (runF (ts.drop k) ns op = R) ∧ Aside0 (Good ns op (toks (ts.take k))) ∧ Aside0 (Bd 55 wx w.heap.size b (fun _ => True) ns op) ∧ Aside0 (Below w.heap.size w wx))
        (fun i _ => ts.length - (RowKit.intOf i).toNat)
      case atStart => exact ⟨0, [root], [0], Nat.zero_le _, rfl, HR0, ⟨good_root⟩, HBD, HBW⟩
      case round =>
        clear HR0 HBD HBW HB0 hlt hk hm
        obtain ⟨k, ns, op, hk, rfl, HRun, HG, HBD, HB⟩ := hrel
        have hm := HL.out
        by_cases hlt : k < ts.length
        · obtain ⟨ad, A3, c3, e, g0, g1, g2, g3, g4, g5, g6, g7⟩ := tok_at HC.out k hlt
          cases e
          obtain ⟨t, ht⟩ : ∃ t, ts[k] = t := ⟨_, rfl⟩
          have htm : mayB t = true := by
            have := HA.out
            rw [List.all_eq_true] at this
            rw [← ht]; exact this _ (List.getElem_mem hlt)
          have hsize : toks (ts.take (k + 1)) = toks (ts.take k) + t.f2.size := by rw [toks_take ts k hlt, ht]
          have hsize2 := toks_le ts (k + 1)
          rw [ht] at g0 g1 g2 g3 g4 g5 g6
          obtain ⟨p, hp⟩ : ∃ p, ad.add (k * 5) = p := ⟨_, rfl⟩
          rw [hp] at g0 g1 g2 g3 g4 g7
          replace g0 := pw_cell_below HB.out g0
          replace g1 := pw_cell_below HB.out g1
          replace g2 := pw_cell_below HB.out g2
          replace g3 := pw_cell_below HB.out g3
          have hdrop : ts.drop k = t :: ts.drop (k + 1) := by rw [List.drop_eq_getElem_cons hlt, ht]
          have G := HG.out
          have hN := G.ns1
          have hO := G.op1
          have HT := Aside0.mk (fun (h : t.f0 = 0) => (show Step 20 #[.pointer (some ⟨b, 0, none⟩), .string t.f2] w b wr (stepF ns op t).1 (stepF ns op t).2 by
            unfold stepF Step; rw [if_pos h]
            exact text_calls w wr b ns op t.f2 HB.out HBD.out G.ns0 G.op0 (by omega) (by omega) (fun l hl => by have := getLast_mem_texts ns l hl; have := G.tx; have := HSZ.out; omega)))
          have HCm := Aside0.mk (fun (h0 : t.f0 ≠ 0) (h : t.f0 = 3) => (show Step 21 #[.pointer (some ⟨b, 0, none⟩), .agg #[.int .i64 3, .string ⟨#[]⟩, .string t.f2, .slice none 0 0, .int .i64 0]] w b wr (stepF ns op t).1 (stepF ns op t).2 by
            unfold stepF Step; rw [if_neg h0, if_pos h]
            exact node_calls w wr b (fun _ => False) ns op 3 0 ⟨#[]⟩ t.f2 (.slice none 0 0) [] HB.out (HBD.out.mono (fun _ _ h => h)) (Kd.R_nil _ _ _ _ _) G.op0 (by omega) (by omega)))
          have HSt := Aside0.mk (fun (h0 : t.f0 ≠ 0) (h3 : t.f0 ≠ 3) (h : t.f0 = 1) => (show Step 22 #[.pointer (some ⟨b, 0, none⟩), .pointer (some p)] w b wr (stepF ns op t).1 (stepF ns op t).2 by
            unfold stepF Step; rw [if_neg h0, if_neg h3, if_pos h]
            exact start_calls w wr b ns op t.f1 t.f3 p A3 c3 HB.out HBD.out G.op0 (by omega) (by omega) g1 g3 (Kd.C_below g6 HB.out) (by have := may_attrs htm h; omega) g7))
          have HEn := Aside0.mk (fun (h0 : t.f0 ≠ 0) (h3 : t.f0 ≠ 3) (h1 : t.f0 ≠ 1) => (show Step 23 #[.pointer (some ⟨b, 0, none⟩), .string t.f1] w b wr (stepF ns op t).1 (stepF ns op t).2 by
            unfold stepF Step; rw [if_neg h0, if_neg h3, if_neg h1]
            exact end_calls w wr b ns op t.f1 HB.out HBD.out G.op0 (by omega) G.ok))
          have HRun2 := Aside0.mk (show (if (stepF ns op t).1.length > 4096 then none else runF (ts.drop (k + 1)) (stepF ns op t).1 (stepF ns op t).2) = R by have := HRun.out; rw [hdrop] at this; exact this)
          have HG2 := Aside0.mk (fun h => (hsize ▸ good_step G t h : Good (stepF ns op t).1 (stepF ns op t).2 (toks (ts.take (k + 1)))))
          obtain ⟨ns', hns'⟩ : ∃ x, (stepF ns op t).1 = x := ⟨_, rfl⟩
          obtain ⟨op', hop'⟩ : ∃ x, (stepF ns op t).2 = x := ⟨_, rfl⟩
          rw [hns', hop'] at HT HCm HSt HEn HRun2 HG2
          clear ht htm hsize hsize2 hdrop G hN hO HRun HG HBD hns' hop' g3 g4 g5 g6 g7
          have HKp := Aside0.mk (show ∀ w4 : World, Bd 55 w4 w.heap.size b (fun _ => True) ns' op' → ∃ A c, w4.cell? ⟨b, 0, none⟩ = some (.slice A ns'.length c) from fun w4 h => by
            obtain ⟨_, v0, v1, h1, h2, _⟩ := h
            obtain ⟨A, c, rfl⟩ := Kd.S_slice h2
            exact ⟨A, c, (blk_cell h1 0).trans rfl⟩)
          by_cases hfull : ns'.length ≤ 4096
          · have HF := Aside0.mk hfull
            have hf : decide (4096 < (ns'.length : Int)) = false := decide_eq_false (by omega)
            have HRun3 := Aside0.mk (show runF (ts.drop (k + 1)) ns' op' = R by have := HRun2.out; rwa [if_neg (by omega)] at this)
            clear hfull HRun2
            by_cases k0 : t.f0 = 0
            · rw [k0] at g0
              have HS := Aside0.mk (HT.out k0)
              clear k0 HT HCm HSt HEn
              unfold Step at HS
              go_wp2_with (go_at_call 20; refine HS.out.mono ?_; rintro e w4 ⟨rfl, hbd, hb4⟩; have HBD := Aside0.mk hbd; have HB4 := Aside0.mk hb4; obtain ⟨A5, c5, y5⟩ := HKp.out w4 hbd; clear hbd hb4)
              go_wp2
              go_roundw
              case rel => exact ⟨k + 1, ns', op', by omega, by go_num, HRun3, ⟨HG2.out HF.out⟩, HBD, HB4⟩
              case measure => simp [RowKit.intOf]; omega
            by_cases k3 : t.f0 = 3
            · rw [k3] at g0
              have HS := Aside0.mk (HCm.out k0 k3)
              clear k0 k3 HT HCm HSt HEn
              unfold Step at HS
              go_wp2_with (go_at_call 21; refine HS.out.mono ?_; rintro e w4 ⟨rfl, hbd, hb4⟩; have HBD := Aside0.mk hbd; have HB4 := Aside0.mk hb4; obtain ⟨A5, c5, y5⟩ := HKp.out w4 hbd; clear hbd hb4)
              go_wp2
              go_roundw
              case rel => exact ⟨k + 1, ns', op', by omega, by go_num, HRun3, ⟨HG2.out HF.out⟩, HBD, HB4⟩
              case measure => simp [RowKit.intOf]; omega
            by_cases k1 : t.f0 = 1
            · rw [k1] at g0
              have HS := Aside0.mk (HSt.out k0 k3 k1)
              clear k0 k3 k1 HT HCm HSt HEn
              unfold Step at HS
              go_wp2_with (go_at_call 22; refine HS.out.mono ?_; rintro e w4 ⟨rfl, hbd, hb4⟩; have HBD := Aside0.mk hbd; have HB4 := Aside0.mk hb4; obtain ⟨A5, c5, y5⟩ := HKp.out w4 hbd; clear hbd hb4)
              go_wp2
              go_roundw
              case rel => exact ⟨k + 1, ns', op', by omega, by go_num, HRun3, ⟨HG2.out HF.out⟩, HBD, HB4⟩
              case measure => simp [RowKit.intOf]; omega
            have HS := Aside0.mk (HEn.out k0 k3 k1)
            have b0 : (t.f0 == 0) = false := by simpa using k0
            have b1 : (t.f0 == 1) = false := by simpa using k1
            have b3 : (t.f0 == 3) = false := by simpa using k3
            clear k0 k1 k3 HT HCm HSt HEn
            unfold Step at HS
            go_wp2_with (go_at_call 23; refine HS.out.mono ?_; rintro e w4 ⟨rfl, hbd, hb4⟩; have HBD := Aside0.mk hbd; have HB4 := Aside0.mk hb4; obtain ⟨A5, c5, y5⟩ := HKp.out w4 hbd; clear hbd hb4)
            go_wp2
            go_roundw
            case rel => exact ⟨k + 1, ns', op', by omega, by go_num, HRun3, ⟨HG2.out HF.out⟩, HBD, HB4⟩
            case measure => simp [RowKit.intOf]; omega
          · have hf : (4096 : Int) < (ns'.length : Int) := by omega
            have HRun3 := Aside0.mk (show none = R by have := HRun2.out; rwa [if_pos (by omega)] at this)
            clear hfull HRun2
            by_cases k0 : t.f0 = 0
            · rw [k0] at g0
              have HS := Aside0.mk (HT.out k0)
              clear k0 HT HCm HSt HEn
              unfold Step at HS
              go_wp2_with (go_at_call 20; refine HS.out.mono ?_; rintro e w4 ⟨rfl, hbd, hb4⟩; have HBD := Aside0.mk hbd; have HB4 := Aside0.mk hb4; obtain ⟨A5, c5, y5⟩ := HKp.out w4 hbd; clear hbd hb4)
              go_wp2
              have hr : buildF ts = ([], 701) := by rw [HRes.out, ← HRun3.out]; rfl
              go_ret2
              exact ⟨.slice none 0 0, by rw [hr]; rfl, by rw [hr]; exact Kd.S_nil _ _ _ _ _, HB4.out⟩
            by_cases k3 : t.f0 = 3
            · rw [k3] at g0
              have HS := Aside0.mk (HCm.out k0 k3)
              clear k0 k3 HT HCm HSt HEn
              unfold Step at HS
              go_wp2_with (go_at_call 21; refine HS.out.mono ?_; rintro e w4 ⟨rfl, hbd, hb4⟩; have HBD := Aside0.mk hbd; have HB4 := Aside0.mk hb4; obtain ⟨A5, c5, y5⟩ := HKp.out w4 hbd; clear hbd hb4)
              go_wp2
              have hr : buildF ts = ([], 701) := by rw [HRes.out, ← HRun3.out]; rfl
              go_ret2
              exact ⟨.slice none 0 0, by rw [hr]; rfl, by rw [hr]; exact Kd.S_nil _ _ _ _ _, HB4.out⟩
            by_cases k1 : t.f0 = 1
            · rw [k1] at g0
              have HS := Aside0.mk (HSt.out k0 k3 k1)
              clear k0 k3 k1 HT HCm HSt HEn
              unfold Step at HS
              go_wp2_with (go_at_call 22; refine HS.out.mono ?_; rintro e w4 ⟨rfl, hbd, hb4⟩; have HBD := Aside0.mk hbd; have HB4 := Aside0.mk hb4; obtain ⟨A5, c5, y5⟩ := HKp.out w4 hbd; clear hbd hb4)
              go_wp2
              have hr : buildF ts = ([], 701) := by rw [HRes.out, ← HRun3.out]; rfl
              go_ret2
              exact ⟨.slice none 0 0, by rw [hr]; rfl, by rw [hr]; exact Kd.S_nil _ _ _ _ _, HB4.out⟩
            have HS := Aside0.mk (HEn.out k0 k3 k1)
            have b0 : (t.f0 == 0) = false := by simpa using k0
            have b1 : (t.f0 == 1) = false := by simpa using k1
            have b3 : (t.f0 == 3) = false := by simpa using k3
            clear k0 k1 k3 HT HCm HSt HEn
            unfold Step at HS
            go_wp2_with (go_at_call 23; refine HS.out.mono ?_; rintro e w4 ⟨rfl, hbd, hb4⟩; have HBD := Aside0.mk hbd; have HB4 := Aside0.mk hb4; obtain ⟨A5, c5, y5⟩ := HKp.out w4 hbd; clear hbd hb4)
            go_wp2
            have hr : buildF ts = ([], 701) := by rw [HRes.out, ← HRun3.out]; rfl
            go_ret2
            exact ⟨.slice none 0 0, by rw [hr]; rfl, by rw [hr]; exact Kd.S_nil _ _ _ _ _, HB4.out⟩
        · obtain ⟨hb0, v0, v1, hb1, hs, hr⟩ := HBD.out
          obtain ⟨A5, c5, rfl⟩ := Kd.S_slice hs
          have y5 : wr.cell? ⟨b, 0, none⟩ = some (.slice A5 ns.length c5) := (blk_cell hb1 0).trans rfl
          have HS := Aside0.mk hs
          have hr : buildF ts = (ns, 0) := by
            have h := HRun.out
            rw [List.drop_eq_nil_of_le (by omega)] at h
            rw [HRes.out, ← h]; rfl
          have HRR := Aside0.mk hr
          clear hb0 hb1 hs hr HRun
          go_wp2
          go_ret2
          exact ⟨.slice A5 ns.length c5, by rw [HRR.out]; rfl, by rw [HRR.out]; exact HS.out, HB.out⟩
end Go.Proofs.Ytkhgnaakcaghjaa.Tr
