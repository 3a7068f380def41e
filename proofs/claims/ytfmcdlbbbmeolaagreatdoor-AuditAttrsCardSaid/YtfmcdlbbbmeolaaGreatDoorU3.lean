/- tok's reader's kept: walked. tok's reader's text, told: walked. tok's reader's told: walked. tok's reader's comment, tag: walked. tok's reader's tag: walked. tok's reader's last: walked; the last attribute written over. tok's reader's reads: walked. -/
import Derived.Test.YtfmcdlbbbmeolaaGreatDoorU0
import Derived.Test.YtfmcdlbbbmeolaaGreatDoorU2
section
namespace Go.Proofs.YtfmcdlbbbmeolaaGreatDoor.Tk
open Go.RowKit Go.Proofs.YtfmcdlbbbmeolaaGreatDoor.XK Go.Proofs.YtfmcdlbbbmeolaaGreatDoorW.PrintWords Go.Proofs.YtfmcdlbbbmeolaaGreatDoorW.PrintLast Go.Proofs.YtfmcdlbbbmeolaaGreatDoorW.PrintMore
open Go.Proofs.YtfmcdlbbbmeolaaGreatDoor.Refs (lowN lowByte_calls decL decode_calls)
attribute [local go_sem ↓] Go.wp_at_zero Go.wp_at_succ
set_option linter.unusedVariables false
set_option linter.unusedSimpArgs false
set_option maxRecDepth 100000
def KeptP (xs : List S39) (w : World) (e : Ending) (w' : World) : Prop := ∃ v, e = .returned v ∧ Kd.R k39 39 w' w.heap.size (fun _ => True) v (keptR xs) ∧ Below w.heap.size w w'
set_option maxHeartbeats 3200000 in
theorem kept_calls (xs : List S39) (A : Option Addr) (c b : Nat) (w : World) (hb : w.cell? ⟨b, 5, none⟩ = some (.slice A xs.length c)) (hx : Kd.C k39 w A xs.length xs) (hsz : ∀ x ∈ xs, x.f1.size ≤ 140737488355328) :
    Calls Tryz.prog 164 #[.pointer (some ⟨b, 0, none⟩)] w (KeptP xs w) := by
  have HX := Aside0.mk hx
  have HL := Aside0.mk hx.2.1
  have HSZ := Aside0.mk hsz
  have hu := Tryz.underlying39
  have hmf : ∀ (fn : Fn) (first cap : Array Value) (w : World), (Instr.makeFunc fn first cap).run Tryz.prog w = .ok (.func fn first cap) w := fun _ _ _ _ => rfl
  clear hx hsz
  go_enter Tryz.func164, Tryz.ntmps164
  go_wp2
  go_loopw [12, 3] (fun i o wr => ∃ k : Nat, k ≤ xs.length ∧ i = .int .i64 k ∧ Aside0 (Kd.R k39 39 wr w.heap.size (fun _ => True) o (keptR (xs.take k))) ∧ Aside0 (Below w.heap.size w wr))
    (fun i _ _ => xs.length - (RowKit.intOf i).toNat)
  case atStart => exact ⟨0, Nat.zero_le _, rfl, ⟨Kd.R_nil _ _ _ _ _⟩, ⟨Below.refl _ _⟩⟩
  case round =>
    obtain ⟨k, hk, rfl, HO, HB⟩ := hrel
    have hm := HL.out
    by_cases hlt : k < xs.length
    · obtain ⟨ad, e, h0, h1⟩ := at_T39 HX.out (k : Int) (by omega) (by omega)
      cases e
      replace h0 := pw_cell_below HB.out h0
      replace h1 := pw_cell_below HB.out h1
      simp only [Int.toNat_natCast] at h0 h1
      obtain ⟨x, hxx⟩ : ∃ x, rd_T39 xs (k : Int) = x := ⟨_, rfl⟩
      rw [hxx] at h0 h1
      have hxk : xs[k] = x := by rw [← hxx]; simp [rd_T39, List.getD_eq_getElem?_getD, List.getElem?_eq_getElem hlt]
      have HX1 := Aside0.mk hxk
      have hsx := HSZ.out x (by rw [← hxk]; exact List.getElem_mem _)
      have HSN := Aside0.mk (keep_snoc xs k hlt)
      have HDe := Aside0.mk (fun w => decode_calls x.f1 w hsx)
      have hkl := keep_len (xs.take k)
      obtain ⟨ks, hks⟩ : ∃ ks, keptR (xs.take k) = ks := ⟨_, rfl⟩
      rw [hks, hxk] at HSN
      rw [hks] at HO hkl
      obtain ⟨Ao, co, rfl, hoc, hC⟩ := Kd.R_reads HO.out
      have HCo := Aside0.mk hC
      clear hxx hxk hks hsx hC
      by_cases q1 : ks.length < 32
      · have d1 : decide ((ks.length : Int) < 32) = true := decide_eq_true (by omega)
        have HK := Aside0.mk (contains_calls ks Ao co x.f0 ⟨wr.heap.size, 0, none⟩ (wr.alloc (.cells #[.string x.f0, .string x.f1] 39)) (Kd.C_alloc HCo.out _) (by rw [blk_cell (heap_alloc_new wr _)]; rfl))
        have HA := Aside0.mk (HB.out.alloc HB.out.size (.cells #[.string x.f0, .string x.f1] 39))
        by_cases q2 : has x.f0 ks = true
        · rw [q2] at HK
          have HKA := Aside0.mk (HSN.out.trans (show keepA ks x = ks by unfold keepA; rw [if_neg (fun h => by rw [q2] at h; exact absurd h.2 (by simp))]))
          clear q1 q2 hkl
          go_wp2_with (go_at_call 205; refine HK.out.mono ?_; rintro e w2 ⟨rfl, hb2⟩)
          have HB2 := Aside0.mk (HA.out.trans (hb2.mono HA.out.size))
          have HO2 := Aside0.mk (Kd.R_below (Kd.R_alloc HO.out _) hb2)
          clear hb2
          go_wp2
          go_roundw
          case rel => exact ⟨k + 1, by omega, by go_num, ⟨by rw [HKA.out]; exact HO2.out⟩, HB2⟩
          case measure => simp [RowKit.intOf]; omega
        · have q2 : has x.f0 ks = false := by simpa using q2
          rw [q2] at HK
          have HKA := Aside0.mk (HSN.out.trans (show keepA ks x = ks ++ [⟨x.f0, decS x.f1⟩] by unfold keepA; rw [if_pos ⟨q1, q2⟩]))
          clear q1 q2 
          go_wp2_with (go_at_call 205; refine HK.out.mono ?_; rintro e w2 ⟨rfl, hb2⟩)
          have HB2 := Aside0.mk (HA.out.trans (hb2.mono HA.out.size))
          have HO2 := Aside0.mk (Kd.R_below (Kd.R_alloc HO.out _) hb2)
          have c0 := pw_cell_below hb2 (show (wr.alloc (.cells #[.string x.f0, .string x.f1] 39)).cell? ⟨wr.heap.size, 0, none⟩ = some (.string x.f0) by rw [blk_cell (heap_alloc_new wr _)]; rfl)
          have c1 := pw_cell_below hb2 (show (wr.alloc (.cells #[.string x.f0, .string x.f1] 39)).cell? ⟨wr.heap.size, 1, none⟩ = some (.string x.f1) by rw [blk_cell (heap_alloc_new wr _)]; rfl)
          obtain ⟨gA, hgA⟩ : ∃ gA, wr.heap.size = gA := ⟨_, rfl⟩
          rw [hgA] at c0 c1 ⊢
          clear hb2 hgA HK HA
          go_wp2
          refine start_ (n := 10) (S := fun w' => w'.cell? ⟨gA, 0, none⟩ = some (.string x.f0) ∧ w'.cell? ⟨gA, 1, none⟩ = some (.string x.f1)) (ds := [8]) #[false, false, false, false, false, false, false, false, false, false] (by kernel_rfl) rfl rfl ⟨c0, c1⟩ (fun hHeld => ?_)
          refine pS 0 26 #[true, false, false, false, false, false, false, false, false, false] ?_
          refine pS 1 27 #[true, true, false, false, false, false, false, false, false, false] ?_
          refine pS 3 29 #[true, true, false, true, false, false, false, false, false, false] ?_
          refine take_ (i := 2) (N := some 28) (v := ?_) (a' := ?_) #[true, true, true, true, false, false, false, false, false, false] rfl rfl (by kernel_rfl) (fun _ _ _ h => h) (Or.inl ⟨by rfl, ?_⟩) hHeld ?_ ?_
          rotate_left
          · rintro w' ⟨s0, s1⟩
            go_simp
            with_reducible rfl
          rotate_left
          · simp only [Act.put, zA, zZ, zS, i64_w, i32_w]
            rfl
          refine take_ (i := 4) (N := some 30) (v := ?_) (a' := ?_) #[true, true, true, true, true, false, false, false, false, false] rfl rfl (by kernel_rfl) (fun _ _ _ h => h) (Or.inl ⟨by rfl, ?_⟩) hHeld ?_ ?_
          rotate_left
          · rintro w' ⟨s0, s1⟩
            go_simp
            with_reducible rfl
          rotate_left
          · simp only [Act.put, zA, zZ, zS, i64_w, i32_w]
            rfl
          refine one_ (i := 5) (N := some 31) #[true, true, true, true, true, true, false, false, false, false] rfl rfl (by kernel_rfl) (by decide) (fun K hK => ?_)
          refine goes_ Tryz.func168 (by kernel_rfl) rfl #[.string x.f1] (by rfl) rfl rfl (by simp only [List.map_toArray, List.map_cons, List.map_nil]; rfl) ?_
          with_reducible refine (HDe.out _).mono ?_
          rintro e w3 ⟨rfl, hb3⟩
          refine ⟨_, rfl, ?_⟩
          refine hK.out _ _ ⟨(pw_cell_below hb3 c0), (pw_cell_below hb3 c1)⟩ (fun hHeld => ?_)
          clear hK K
          refine norm_ (a' := ?_) ?_ ?_
          rotate_left
          · show Act.put _ (some 31) _ = _
            simp only [Act.put, zA, zZ, zS, i64_w, i32_w]
            rfl
          refine pS 6 32 #[true, true, true, true, true, true, true, false, false, false] ?_
          refine one_ (i := 7) (N := some 33) #[true, true, true, true, true, true, true, true, false, false] rfl rfl (by kernel_rfl) (by decide) (fun K hK => ?_)
          refine value_ (w1 := ?_) (v := ?_) (by rfl) rfl ?_ ?_
          rotate_left 2
          · go_simp
            constructor
            · rfl
            · rfl
          refine hK.out _ _ ⟨(cell_alloc (pw_cell_below hb3 c0) _), (cell_alloc (pw_cell_below hb3 c1) _)⟩ (fun hHeld => ?_)
          clear hK K
          refine norm_ (a' := ?_) ?_ ?_
          rotate_left
          · show Act.put _ (some 33) _ = _
            simp only [Act.put, zA, zZ, zS, i64_w, i32_w]
            rfl
          refine last_ (i := 8) (N := some 34) #[true, true, true, true, true, true, true, true, true, false] rfl rfl (by kernel_rfl) (by decide) (fun K hK => ?_)
          refine Kd.R_append_step k39 (w0 := w) (W := w3) w.heap.size (by rfl) (.tmp 26) (.tmp 33) 35 39 (.agg #[(.string ⟨#[]⟩), (.string ⟨#[]⟩)]) 32 (by rfl) Tryz.underlying35 infoAttr (by rfl) (by decide) (by decide) (.slice Ao ks.length co) ks ⟨x.f0, decS x.f1⟩ [.string x.f0, .string (decS x.f1)] (fun _ => True) (fun _ => False) (by rfl) (by rfl) (k39_mkM _ _ _ (⟨x.f0, decS x.f1⟩ : S39)) (fun q hq => hq.elim) (fun _ _ => trivial) (Kd.R_below (Kd.R_drew HO2.out) hb3) ((below_drew HB2.out).trans (hb3.mono (below_drew HB2.out).size)) ((below_drew HB2.out).trans (hb3.mono (below_drew HB2.out).size)).size (by omega) ?_
          intro v9 w9 hR9 hB9 hgr hat
          refine hK.out _ _ ?_
          clear hK K
          refine norm_ (a' := ?_) ?_ ?_
          rotate_left
          · show Act.put _ (some 34) _ = _
            simp only [Act.put, zA, zZ, zS, i64_w, i32_w]
            rfl
          refine pS 9 3 #[true, true, true, true, true, true, true, true, true, true] ?_
          refine done_ (by kernel_rfl) ?_
          go_wp2
          go_roundw
          case rel => exact ⟨k + 1, by omega, by go_num, ⟨by rw [HKA.out]; exact hR9⟩, ⟨hB9⟩⟩
          case measure => simp [RowKit.intOf]; omega
      · have d1 : decide ((ks.length : Int) < 32) = false := decide_eq_false (by omega)
        have HA := Aside0.mk (HB.out.alloc HB.out.size (.cells #[.string x.f0, .string x.f1] 39))
        have HKA := Aside0.mk (HSN.out.trans (show keepA ks x = ks by unfold keepA; rw [if_neg (fun h => q1 h.1)]))
        clear q1 hkl
        go_wp2
        go_roundw
        case rel => exact ⟨k + 1, by omega, by go_num, ⟨by rw [HKA.out]; exact Kd.R_alloc HO.out _⟩, HA⟩
        case measure => simp [RowKit.intOf]; omega
    · have HN2 := Aside0.mk (show Kd.R k39 39 wr w.heap.size (fun _ => True) _ (keptR xs) from by have := HO.out; rw [List.take_of_length_le (by omega)] at this; exact this)
      go_wp2
      go_ret
      exact ⟨_, rfl, HN2.out, HB.out⟩
theorem slice_run {P : Program} (T : TypeId) (s : ByteArray) (i j : Nat) (h : i ≤ j) (h2 : j ≤ s.size) (W : World) (hT : P.underlying T = some .string) : (Instr.slice T (.string s) (some (.int .i64 (i : Int))) (some (.int .i64 (j : Int))) none).run P W = .ok (.string (s.extract i j)) W := by
  rw [run_slice_string W T s .i64 .i64 (i : Int) (j : Int) hT (by omega) (by omega) (by omega), Int.toNat_natCast, Int.toNat_natCast]
def Keeps (w w' : World) (b : Nat) (ok : Nat → Prop) : Prop := ∀ k, k < w.heap.size → k ≠ b → ¬ ok k → w'.heap[k]? = w.heap[k]?
theorem Keeps.below {w w' : World} {b : Nat} {ok : Nat → Prop} (hb : Below w.heap.size w w') : Keeps w w' b ok := fun k hk _ _ => hb.block k hk
structure TextP (w0 w : World) (b : Nat) (ok : Nat → Prop) (p : ByteArray) (r : Rd) (e : Ending) (w' : World) : Prop where
  ends : e = .returned (.tuple #[])
  at_ : RdAt w' w0.heap.size b ok p r
  low : Below w0.heap.size w0 w'
  st : StKeep w w'
  keeps : Keeps w w' b ok
theorem text_end {w0 w W w9 : World} {b : Nat} {ok : Nat → Prop} {p : ByteArray} {r : Rd} {v0 v1 v9 : Value} {t : S41}
    (hb0 : w0.heap.size ≤ b) (hb1 : W.heap[b]? = some (.cells #[.string p, v0, .int .i64 r.fr, .int .i64 r.op, .string r.held, v1, .int .i64 r.bg] 85 (0, 0)))
    (hS : Kd.S k41 41 W w0.heap.size (fun k => ok k ∧ some k ≠ v1.ownBlock) v0 r.out) (hR : Kd.R k39 39 W w0.heap.size ok v1 r.ats)
    (hW : Below w.heap.size w W) (hL : Below w0.heap.size w0 w)
    (hS9 : Kd.S k41 41 w9 w0.heap.size (fun k => ok k ∧ some k ≠ v1.ownBlock) v9 (r.out ++ [t])) (hB9 : Below w0.heap.size w0 w9) (hgr : W.grownBy w9 v0.ownBlock) :
    TextP w0 w b ok p { r with out := r.out ++ [t] } (.returned (.tuple #[])) (w9.setCell ⟨b, 1, none⟩ v9) := by
  have b9 : w9.heap[b]? = some (.cells #[.string p, v0, .int .i64 r.fr, .int .i64 r.op, .string r.held, v1, .int .i64 r.bg] 85 (0, 0)) := blk_grown hb1 hgr (Kd.S_ne hS hb1 (by decide))
  refine ⟨rfl, ⟨hb0, v9, v1, blk_set b9 1 _, Kd.S_set hS9 b9 (by decide) 1 _, Kd.R_set (Kd.R_over' hR (fun q hq => Kd.S_typed hS q hq) (by decide) hgr) b9 (by decide) 1 _⟩, hB9.setCell hb0 _, ((StKeep.below hW).trans (StKeep.grown hgr (fun q hq => Kd.S_typed hS q hq) (by decide))).trans (StKeep.set b9 (by decide)), fun k hk hkb hko => ?_⟩
  rw [Below.heap_setCell w9 ⟨b, 1, none⟩ v9 k hkb]
  have hlt : k < W.heap.size := Nat.lt_of_lt_of_le hk hW.size
  rw [hgr.block k hlt (fun e => hko ((Kd.S_R hS).1 k e.symm).1)]
  exact hW.block k hk
set_option maxHeartbeats 3200000 in
theorem text_calls (w0 w : World) (b : Nat) (ok : Nat → Prop) (p : ByteArray) (r : Rd) (t : Nat) (hB : Below w0.heap.size w0 w) (hI : RdAt w w0.heap.size b ok p r) (hok : ∀ k, w.heap.size ≤ k → ok k)
    (h1 : r.fr ≤ t) (h2 : t ≤ p.size) (hp : p.size ≤ 65536) (hout : r.out.length ≤ 1000000) :
    Calls Tryz.prog 111 #[.pointer (some ⟨b, 0, none⟩), .int .i64 (t : Int)] w (TextP w0 w b ok p (textR p r t)) := by
  have HB := Aside0.mk hB
  have HI := Aside0.mk hI
  have HOK := Aside0.mk hok
  obtain ⟨hb0, v0, v1, hb1, hs, hr⟩ := hI
  obtain ⟨A0, c0, rfl⟩ := Kd.S_slice hs
  obtain ⟨A1, c1, rfl⟩ := Kd.R_slice hr
  have HNV := Aside0.mk (show ∀ k, w.heap.size ≤ k → some k ≠ (Value.slice A1 r.ats.length c1).ownBlock from fun k hk e => by have := Kd.R_lt hr k e.symm; omega)
  have x0 : w.cell? ⟨b, 0, none⟩ = some (.string p) := (blk_cell hb1 0).trans rfl
  have x1 : w.cell? ⟨b, 1, none⟩ = some (.slice A0 r.out.length c0) := (blk_cell hb1 1).trans rfl
  have x2 : w.cell? ⟨b, 2, none⟩ = some (.int .i64 r.fr) := (blk_cell hb1 2).trans rfl
  have x4 : w.cell? ⟨b, 4, none⟩ = some (.string r.held) := (blk_cell hb1 4).trans rfl
  have hrun := fun W => slice_run (P := Tryz.prog) 9 p r.fr t h1 h2 W Tryz.underlying9
  have hq := fun (e : p.extract r.fr t = p.extract r.fr t) => e
  have hqs : (p.extract r.fr t).size ≤ 65536 := by rw [ByteArray.size_extract]; omega
  have HQ := Aside0.mk (show textR p r t = _ from rfl)
  obtain ⟨q, hqe⟩ : ∃ q, p.extract r.fr t = q := ⟨_, rfl⟩
  unfold textR at HQ ⊢
  rw [hqe] at hrun hqs ⊢
  have HB0 := Aside0.mk hb0
  have HB1 := Aside0.mk hb1
  have HS := Aside0.mk hs
  have HR := Aside0.mk hr
  have HK := Aside0.mk (fun w => kind_calls r.held w)
  have HDe := Aside0.mk (fun w => decode_calls q w (by omega))
  clear hb0 hb1 hs hr hB hok h1 h2 hp hqe HQ hq hqs
  by_cases hz : q.toList.isEmpty = true
  · rw [if_pos hz]
    go_enter Tryz.func111, Tryz.ntmps111
    go_wp2
    go_quiet (fail)
    go_wp2
    go_end0
    exact ⟨rfl, HI.out.drewN _, pw_below_drewN HB.out _, StKeep.below (pw_below_drewN (Below.refl _ _) _), Keeps.below (pw_below_drewN (Below.refl _ _) _)⟩
  · rw [if_neg hz]
    have hz1 : q.toList.isEmpty = false := by simpa using hz
    clear hz
    unfold textV
    by_cases k3 : kindOf r.held = 3
    · rw [if_pos k3]
      rw [k3] at HK
      clear k3 HDe
      go_enter Tryz.func111, Tryz.ntmps111
      go_wp2
      go_quiet (fail)
      go_wp2_with (first | (go_at_call 167; refine (HK.out _).mono ?_; rintro e w1 ⟨rfl, ⟨m, rfl⟩⟩) | ((at_builtin; have hW := (pw_below_drewN (Below.refl w.heap.size w) (nq + m)); refine Kd.S_append k41 (w0 := w0) w0.heap.size rfl (.tmp 35) (.tmp 38) 22 41 (.agg #[(.int .i64 0), (.string ⟨#[]⟩), (.string ⟨#[]⟩), (.slice none 0 0), (.bool false)]) 72 rfl Tryz.underlying22 infoTok rfl (by decide) (by decide) (.slice A0 r.out.length c0) r.out ⟨0, ⟨#[]⟩, q, [], false⟩ [.int .i64 0, .string ⟨#[]⟩, .string q, .slice none 0 0, .bool false] (fun k => ok k ∧ some k ≠ (Value.slice A1 r.ats.length c1).ownBlock) (fun _ => False) rfl rfl (k41_mkM _ _ _ (⟨0, ⟨#[]⟩, q, [], false⟩ : S41) (Kd.R_nil _ _ _ _ _)) (fun q hq => hq.elim) (fun k hk => ⟨HOK.out k (Nat.le_trans hW.size hk), HNV.out k (Nat.le_trans hW.size hk)⟩) (Kd.S_mono (Kd.S_below HS.out hW) (fun _ h => ⟨h, fun h => h⟩)) (HB.out.trans (hW.mono HB.out.size)) (HB.out.trans (hW.mono HB.out.size)).size (by omega) ?_; intro v9 w9 hS9 hB9 hgr hat; obtain ⟨A9, c9, e9⟩ := Kd.S_slice hS9; rw [List.length_append, List.length_singleton] at e9; subst e9; have b9 := blk_grown (blk_below HB1.out hW) hgr (Kd.S_ne (Kd.S_below HS.out hW) (blk_below HB1.out hW) (by decide)); have c9' : w9.cell? ⟨b, 1, none⟩ = some (.slice A0 r.out.length c0) := (blk_cell b9 1).trans rfl; have f9 : w9.frozen? ⟨b, 1, none⟩ = false := blk_frozen b9 1; have HE := Aside0.mk (text_end (t := ⟨0, ⟨#[]⟩, q, [], false⟩) HB0.out (blk_below HB1.out hW) (Kd.S_below HS.out hW) (Kd.R_below HR.out hW) hW HB.out hS9 hB9 hgr); clear b9 hS9 hB9 hgr hat hW)))
      go_end0
      exact HE.out
    · have n3 : (kindOf r.held != 3) = true := by simpa using k3
      rw [if_neg k3]
      by_cases k4 : kindOf r.held = 4
      · rw [if_pos k4]
        rw [k4] at HK
        clear k3 k4 n3 HDe
        go_enter Tryz.func111, Tryz.ntmps111
        go_wp2
        go_quiet (fail)
        go_wp2_with (first | (go_at_call 167; refine (HK.out _).mono ?_; rintro e w1 ⟨rfl, ⟨m, rfl⟩⟩) | ((at_builtin; have hW := (pw_below_drewN (Below.refl w.heap.size w) (nq + m)); refine Kd.S_append k41 (w0 := w0) w0.heap.size rfl (.tmp 35) (.tmp 38) 22 41 (.agg #[(.int .i64 0), (.string ⟨#[]⟩), (.string ⟨#[]⟩), (.slice none 0 0), (.bool false)]) 72 rfl Tryz.underlying22 infoTok rfl (by decide) (by decide) (.slice A0 r.out.length c0) r.out ⟨0, ⟨#[]⟩, q, [], false⟩ [.int .i64 0, .string ⟨#[]⟩, .string q, .slice none 0 0, .bool false] (fun k => ok k ∧ some k ≠ (Value.slice A1 r.ats.length c1).ownBlock) (fun _ => False) rfl rfl (k41_mkM _ _ _ (⟨0, ⟨#[]⟩, q, [], false⟩ : S41) (Kd.R_nil _ _ _ _ _)) (fun q hq => hq.elim) (fun k hk => ⟨HOK.out k (Nat.le_trans hW.size hk), HNV.out k (Nat.le_trans hW.size hk)⟩) (Kd.S_mono (Kd.S_below HS.out hW) (fun _ h => ⟨h, fun h => h⟩)) (HB.out.trans (hW.mono HB.out.size)) (HB.out.trans (hW.mono HB.out.size)).size (by omega) ?_; intro v9 w9 hS9 hB9 hgr hat; obtain ⟨A9, c9, e9⟩ := Kd.S_slice hS9; rw [List.length_append, List.length_singleton] at e9; subst e9; have b9 := blk_grown (blk_below HB1.out hW) hgr (Kd.S_ne (Kd.S_below HS.out hW) (blk_below HB1.out hW) (by decide)); have c9' : w9.cell? ⟨b, 1, none⟩ = some (.slice A0 r.out.length c0) := (blk_cell b9 1).trans rfl; have f9 : w9.frozen? ⟨b, 1, none⟩ = false := blk_frozen b9 1; have HE := Aside0.mk (text_end (t := ⟨0, ⟨#[]⟩, q, [], false⟩) HB0.out (blk_below HB1.out hW) (Kd.S_below HS.out hW) (Kd.R_below HR.out hW) hW HB.out hS9 hB9 hgr); clear b9 hS9 hB9 hgr hat hW)))
        go_end0
        exact HE.out
      · have n4 : (kindOf r.held != 4) = true := by simpa using k4
        rw [if_neg k4]
        have HDS := Aside0.mk (show (⟨(decL q.data.toList).toArray⟩ : ByteArray) = decS q from rfl)
        clear k3 k4
        go_enter Tryz.func111, Tryz.ntmps111
        go_wp2
        go_quiet (fail)
        go_wp2_with (first | (go_at_call 167; refine (HK.out _).mono ?_; rintro e w1 ⟨rfl, ⟨m, rfl⟩⟩) | (go_at_call 168; (refine (HDe.out _).mono ?_; rintro e w2 ⟨rfl, hb2⟩; rw [HDS.out]; have HB2 := Aside0.mk ((pw_below_drewN (Below.refl w.heap.size w) (nq + m)).trans (hb2.mono (Nat.le_refl _))); clear hb2; have x1 := pw_cell_below HB2.out x1)) | ((at_builtin; have hW := HB2.out; refine Kd.S_append k41 (w0 := w0) w0.heap.size rfl (.tmp 35) (.tmp 38) 22 41 (.agg #[(.int .i64 0), (.string ⟨#[]⟩), (.string ⟨#[]⟩), (.slice none 0 0), (.bool false)]) 72 rfl Tryz.underlying22 infoTok rfl (by decide) (by decide) (.slice A0 r.out.length c0) r.out ⟨0, ⟨#[]⟩, (decS q), [], false⟩ [.int .i64 0, .string ⟨#[]⟩, .string (decS q), .slice none 0 0, .bool false] (fun k => ok k ∧ some k ≠ (Value.slice A1 r.ats.length c1).ownBlock) (fun _ => False) rfl rfl (k41_mkM _ _ _ (⟨0, ⟨#[]⟩, (decS q), [], false⟩ : S41) (Kd.R_nil _ _ _ _ _)) (fun q hq => hq.elim) (fun k hk => ⟨HOK.out k (Nat.le_trans hW.size hk), HNV.out k (Nat.le_trans hW.size hk)⟩) (Kd.S_mono (Kd.S_below HS.out hW) (fun _ h => ⟨h, fun h => h⟩)) (HB.out.trans (hW.mono HB.out.size)) (HB.out.trans (hW.mono HB.out.size)).size (by omega) ?_; intro v9 w9 hS9 hB9 hgr hat; obtain ⟨A9, c9, e9⟩ := Kd.S_slice hS9; rw [List.length_append, List.length_singleton] at e9; subst e9; have b9 := blk_grown (blk_below HB1.out hW) hgr (Kd.S_ne (Kd.S_below HS.out hW) (blk_below HB1.out hW) (by decide)); have c9' : w9.cell? ⟨b, 1, none⟩ = some (.slice A0 r.out.length c0) := (blk_cell b9 1).trans rfl; have f9 : w9.frozen? ⟨b, 1, none⟩ = false := blk_frozen b9 1; have HE := Aside0.mk (text_end (t := ⟨0, ⟨#[]⟩, (decS q), [], false⟩) HB0.out (blk_below HB1.out hW) (Kd.S_below HS.out hW) (Kd.R_below HR.out hW) hW HB.out hS9 hB9 hgr); clear b9 hS9 hB9 hgr hat hW)))
        go_end0
        exact HE.out
theorem grown_cell {w w1 : World} {row : Option Nat} {g t : Nat} {cs : Array Value} (hg : w.grownBy w1 row) (h : w.heap[g]? = some (.cells cs t (0, 0))) (hne : some g ≠ row) (j : Nat) : w1.cell? ⟨g, j, none⟩ = cs[j]? := blk_cell (blk_grown h hg hne) j
set_option maxHeartbeats 3200000 in
theorem told_calls (w0 w : World) (b : Nat) (okp : Nat → Prop) (p : ByteArray) (r : Rd) (t : S41) (va : Value) (i : Nat) (hB : Below w0.heap.size w0 w) (hI : RdAt w w0.heap.size b (fun k => ¬ okp k) p r)
    (hva : Kd.R k39 39 w w0.heap.size okp va t.f3) (h1 : r.fr ≤ r.op) (h2 : r.op ≤ p.size) (hp : p.size ≤ 65536) (hout : r.out.length ≤ 999990) (hi : i ≤ 65536) :
    Calls Tryz.prog 165 #[.pointer (some ⟨b, 0, none⟩), .agg #[.int .i64 t.f0, .string t.f1, .string t.f2, va, .bool t.f4], .int .i64 (i : Int)] w (TextP w0 w b (fun _ => True) p (toldR p r t i)) := by
  obtain ⟨va1, va2, eva⟩ := Kd.R_slice hva
  subst eva
  have hbw : b < w.heap.size := by obtain ⟨_, v0, v1, hb1, _⟩ := hI; exact blk_lt hb1
  have hva' : Kd.R k39 39 w w0.heap.size (fun k => okp k ∧ k < w.heap.size ∧ k ≠ b) (.slice va1 t.f3.length va2) t.f3 := by
    obtain ⟨_, v0, v1, hb1, _⟩ := hI
    exact Kd.R_mono (Kd.R_bound (Kd.R_types hva hb1 (by decide))) (fun k hk => ⟨hk.1.1, hk.2.2.1, hk.1.2⟩)
  obtain ⟨okq, hokq⟩ : ∃ okq : Nat → Prop, (fun k => okp k ∧ k < w.heap.size ∧ k ≠ b) = okq := ⟨_, rfl⟩
  have hql : ∀ k, okq k → k < w.heap.size ∧ k ≠ b := fun k hk => by rw [← hokq] at hk; exact hk.2
  rw [hokq] at hva'
  have hI1 : RdAt (w.alloc (.cells #[.int .i64 t.f0, .string t.f1, .string t.f2, .slice va1 t.f3.length va2, .bool t.f4] 41)) w0.heap.size b (fun k => ¬ okq k ∧ k ≠ w.heap.size) p r :=
    (hI.old (below_alloc (Below.refl _ _) _)).mono (fun k hk => ⟨fun h => by rw [← hokq] at h; exact hk.1 h.1, by have := hk.2; omega⟩)
  have HTx := Aside0.mk (text_calls w0 _ b _ p r r.op (hB.alloc hB.size _) hI1 (fun k hk => by rw [World.size_alloc] at hk; exact ⟨fun h => by have := (hql k h).1; omega, by omega⟩) h1 h2 hp (by omega))
  have x3 : w.cell? ⟨b, 3, none⟩ = some (.int .i64 r.op) := by obtain ⟨_, v0, v1, hb1, _⟩ := hI; exact (blk_cell hb1 3).trans rfl
  have x3' := cell_alloc x3 (.cells #[.int .i64 t.f0, .string t.f1, .string t.f2, .slice va1 t.f3.length va2, .bool t.f4] 41)
  obtain ⟨r1, hr1⟩ : ∃ r1, textR p r r.op = r1 := ⟨_, rfl⟩
  have hr1o : r1.out.length ≤ r.out.length + 1 := by rw [← hr1]; unfold textR; split <;> simp
  unfold toldR
  rw [hr1] at HTx ⊢
  have HW := Aside0.mk hB
  have HV := Aside0.mk hva'
  have HQL := Aside0.mk hql
  have HBW := Aside0.mk hbw
  clear hI hI1 hva hva' hokq hql hB h1 h2 x3 hr1 hbw
  go_enter Tryz.func165, Tryz.ntmps165
  go_wp2_with (go_at_call 111; refine HTx.out.mono ?_; rintro e w2 ⟨rfl, hI2, hB2, hst2, hk2⟩)
  obtain ⟨g, hgg⟩ : ∃ g, w.heap.size = g := ⟨_, rfl⟩
  have hg : w2.heap[g]? = some (.cells #[.int .i64 t.f0, .string t.f1, .string t.f2, .slice va1 t.f3.length va2, .bool t.f4] 41 (0, 0)) := by
    rw [← hgg]
    exact (hk2 w.heap.size (by rw [World.size_alloc]; omega) (by have := HBW.out; omega) (fun h => h.2 rfl)).trans (heap_alloc_new w _)
  have hv2 : Kd.R k39 39 w2 w0.heap.size okq (.slice va1 t.f3.length va2) t.f3 := by
    exact Kd.R_step (Kd.R_alloc HV.out _) (fun k hk hlt => hk2 k hlt (HQL.out k hk).2 (fun h => h.1 hk))
  have hnb : g ≠ b := by have := HBW.out; omega
  have hgl : w0.heap.size ≤ g := by rw [← hgg]; exact HW.out.size
  rw [hgg] at hI2 ⊢
  have HQG := Aside0.mk (show ∀ k, okq k → k ≠ g from fun k hk => by have := (HQL.out k hk).1; omega)
  have HSTK := Aside0.mk ((StKeep.below (below_alloc (Below.refl _ _) (.cells #[.int .i64 t.f0, .string t.f1, .string t.f2, .slice va1 t.f3.length va2, .bool t.f4] 41))).trans hst2)
  have HB2 := Aside0.mk hB2
  have HG := Aside0.mk hg
  have HV2 := Aside0.mk hv2
  clear hk2 HTx HW HV HQL HBW hst2 hgg x3' hB2 hv2
  obtain ⟨hb0, v0, v1, hb1, hs, hr⟩ := hI2
  obtain ⟨A0, c0, rfl⟩ := Kd.S_slice hs
  obtain ⟨A1, c1, rfl⟩ := Kd.R_slice hr
  have HB0 := Aside0.mk hb0
  have HB1 := Aside0.mk hb1
  have HS := Aside0.mk hs
  have HR := Aside0.mk hr
  have HNV := Aside0.mk (show ∀ k, w2.heap.size ≤ k → some k ≠ (Value.slice A1 r1.ats.length c1).ownBlock from fun k hk e => by have := Kd.R_lt hr k e.symm; omega)
  have HQV := Aside0.mk (show ∀ k, okq k → some k ≠ (Value.slice A1 r1.ats.length c1).ownBlock from fun k hk e => (hr.1 k e.symm).1 hk)
  have HQ0 := Aside0.mk (show ∀ k, okq k → some k ≠ (Value.slice A0 r1.out.length c0).ownBlock from fun k hk e => ((Kd.S_R hs).1 k e.symm).1.1 hk)
  have HG0 := Aside0.mk (show some g ≠ (Value.slice A0 r1.out.length c0).ownBlock from fun e => ((Kd.S_R hs).1 g e.symm).1.2 rfl)
  have c0' : w2.cell? ⟨b, 1, none⟩ = some (.slice A0 r1.out.length c0) := (blk_cell hb1 1).trans rfl
  have d0 : w2.cell? ⟨g, 0, none⟩ = some (.int .i64 t.f0) := (blk_cell hg 0).trans rfl
  have d1 : w2.cell? ⟨g, 1, none⟩ = some (.string t.f1) := (blk_cell hg 1).trans rfl
  have d2 : w2.cell? ⟨g, 2, none⟩ = some (.string t.f2) := (blk_cell hg 2).trans rfl
  have d3 : w2.cell? ⟨g, 3, none⟩ = some (.slice va1 t.f3.length va2) := (blk_cell hg 3).trans rfl
  have d4 : w2.cell? ⟨g, 4, none⟩ = some (.bool t.f4) := (blk_cell hg 4).trans rfl
  have hu := Tryz.underlying41
  clear hb0 hb1 hs hr hg
  go_wp2
  refine start_ (n := 11) (S := fun w' => w'.cell? ⟨b, 1, none⟩ = some (.slice A0 r1.out.length c0) ∧ w'.cell? ⟨g, 0, none⟩ = some (.int .i64 t.f0) ∧ w'.cell? ⟨g, 1, none⟩ = some (.string t.f1) ∧ w'.cell? ⟨g, 2, none⟩ = some (.string t.f2) ∧ w'.cell? ⟨g, 3, none⟩ = some (.slice va1 t.f3.length va2) ∧ w'.cell? ⟨g, 4, none⟩ = some (.bool t.f4)) (ds := [10]) #[false, false, false, false, false, false, false, false, false, false, false] (by kernel_rfl) rfl rfl ⟨c0', d0, d1, d2, d3, d4⟩ (fun hHeld => ?_)
  refine pS 0 12 #[true, false, false, false, false, false, false, false, false, false, false] ?_
  refine pS 1 13 #[true, true, false, false, false, false, false, false, false, false, false] ?_
  refine pS 2 14 #[true, true, true, false, false, false, false, false, false, false, false] ?_
  refine pS 3 15 #[true, true, true, true, false, false, false, false, false, false, false] ?_
  refine take_ (i := 4) (N := some 16) (v := ?_) (a' := ?_) #[true, true, true, true, true, false, false, false, false, false, false] rfl rfl (by kernel_rfl) (fun _ _ _ h => h) (Or.inl ⟨by rfl, ?_⟩) hHeld ?_ ?_
  rotate_left
  · rintro w' ⟨s0, s1, s2, s3, s4, s5⟩
    go_simp
    with_reducible rfl
  rotate_left
  · simp only [Act.put, zA, zZ, zS, i64_w, i32_w]
    rfl
  refine take_ (i := 5) (N := some 17) (v := ?_) (a' := ?_) #[true, true, true, true, true, true, false, false, false, false, false] rfl rfl (by kernel_rfl) (fun _ _ _ h => h) (Or.inl ⟨by rfl, ?_⟩) hHeld ?_ ?_
  rotate_left
  · rintro w' ⟨s0, s1, s2, s3, s4, s5⟩
    go_simp
    with_reducible rfl
  rotate_left
  · simp only [Act.put, zA, zZ, zS, i64_w, i32_w]
    rfl
  refine one_ (i := 6) (N := some 18) #[true, true, true, true, true, true, true, false, false, false, false] rfl rfl (by kernel_rfl) (by decide) (fun K hK => ?_)
  refine value_ (w1 := ?_) (v := ?_) (by rfl) rfl ?_ ?_
  rotate_left 2
  · go_simp
    constructor
    · rfl
    · rfl
  refine hK.out _ _ ⟨(cell_alloc (w := w2.drew) c0' _), (cell_alloc (w := w2.drew) d0 _), (cell_alloc (w := w2.drew) d1 _), (cell_alloc (w := w2.drew) d2 _), (cell_alloc (w := w2.drew) d3 _), (cell_alloc (w := w2.drew) d4 _)⟩ (fun hHeld => ?_)
  clear hK K
  refine norm_ (a' := ?_) ?_ ?_
  rotate_left
  · show Act.put _ (some 18) _ = _
    simp only [Act.put, zA, zZ, zS, i64_w, i32_w]
    rfl
  refine one_ (i := 7) (N := some 19) #[true, true, true, true, true, true, true, true, false, false, false] rfl rfl (by kernel_rfl) (by decide) (fun K hK => ?_)
  refine Kd.S_append_step k41 (w0 := w0) (W := w2.drew) w0.heap.size (by rfl) (.tmp 16) (.tmp 18) 22 41 (.agg #[(.int .i64 0), (.string ⟨#[]⟩), (.string ⟨#[]⟩), (.slice none 0 0), (.bool false)]) 72 (by rfl) Tryz.underlying22 infoTok (by rfl) (by decide) (by decide) (.slice A0 r1.out.length c0) r1.out t [.int .i64 t.f0, .string t.f1, .string t.f2, .slice va1 t.f3.length va2, .bool t.f4] (fun k => some k ≠ (Value.slice A1 r1.ats.length c1).ownBlock) okq (by rfl) (by rfl) (k41_mkM _ _ _ t (Kd.R_drew HV2.out)) (fun q hq => ⟨HQV.out q hq, HQ0.out q hq⟩) (fun k hk => HNV.out k hk) (Kd.S_mono (Kd.S_drew HS.out) (fun _ h => ⟨h.2, h.1.1⟩)) (below_drew HB2.out) (below_drew HB2.out).size (by omega) ?_
  intro v9 w9 hS9 hB9 hgr hat
  obtain ⟨A9, c9, e9⟩ := Kd.S_slice hS9
  rw [List.length_append, List.length_singleton] at e9
  subst e9
  have b9 : w9.heap[b]? = some (.cells #[.string p, .slice A0 r1.out.length c0, .int .i64 r1.fr, .int .i64 r1.op, .string r1.held, .slice A1 r1.ats.length c1, .int .i64 r1.bg] 85 (0, 0)) := blk_grown (w := w2.drew) HB1.out hgr (Kd.S_ne HS.out HB1.out (by decide))
  have c9' : w9.cell? ⟨b, 1, none⟩ = some (.slice A0 r1.out.length c0) := (blk_cell b9 1).trans rfl
  have f9 : w9.frozen? ⟨b, 1, none⟩ = false := blk_frozen b9 1
  refine hK.out _ _ ⟨c9', (grown_cell (w := w2.drew) hgr HG.out HG0.out 0), (grown_cell (w := w2.drew) hgr HG.out HG0.out 1), (grown_cell (w := w2.drew) hgr HG.out HG0.out 2), (grown_cell (w := w2.drew) hgr HG.out HG0.out 3), (grown_cell (w := w2.drew) hgr HG.out HG0.out 4)⟩ (fun hHeld => ?_)
  clear hK K
  refine norm_ (a' := ?_) ?_ ?_
  rotate_left
  · show Act.put _ (some 19) _ = _
    simp only [Act.put, zA, zZ, zS, i64_w, i32_w]
    rfl
  refine pS 8 20 #[true, true, true, true, true, true, true, true, true, false, false] ?_
  refine pS 9 21 #[true, true, true, true, true, true, true, true, true, true, false] ?_
  refine last_ (i := 10) (N := none) #[true, true, true, true, true, true, true, true, true, true, true] rfl rfl (by kernel_rfl) (by decide) (fun K hK => ?_)
  refine skip_ (w1 := ?_) (by rfl) rfl ?_ ?_
  rotate_left
  · go_simp
    rfl
  refine hK.out _ _ ?_
  clear hK K
  refine done_ (by kernel_rfl) ?_
  have b10 := blk_set b9 1 (.slice A9 (r1.out.length + 1) c9)
  obtain ⟨w10, hw10⟩ : ∃ w10, w9.setCell ⟨b, 1, none⟩ (.slice A9 (r1.out.length + 1) c9) = w10 := ⟨_, rfl⟩
  have HE10 := Aside0.mk hw10
  rw [hw10] at b10 ⊢
  have c10 : w10.cell? ⟨b, 2, none⟩ = some (.int .i64 r1.fr) := (blk_cell b10 2).trans rfl
  have f10 : w10.frozen? ⟨b, 2, none⟩ = false := blk_frozen b10 2
  have B10 := Aside0.mk b10
  have B9 := Aside0.mk b9
  have S9 := Aside0.mk hS9
  have L9 := Aside0.mk hB9
  have G9 := Aside0.mk hgr
  have iw : IntKind.i64.wrap ((i : Int) + 1) = ((i + 1 : Nat) : Int) := by rw [show ((i + 1 : Nat) : Int) = (i : Int) + 1 by omega]; exact IntWalk.i64_in _ (by omega)
  clear hw10 b9 hS9 hB9 hgr hat b10 c9' f9 hHeld
  go_wp2
  go_end0
  obtain rfl := HE10.out
  exact ⟨rfl, ⟨HB0.out, _, _, blk_set B10.out 2 _, Kd.S_set (Kd.S_mono (Kd.S_set S9.out B9.out (by decide) 1 _) (fun _ h => ⟨trivial, h⟩)) B10.out (by decide) 2 _, Kd.R_set (Kd.R_set (Kd.R_over' (Kd.R_mono (Kd.R_drew HR.out) (fun _ _ => trivial)) (fun q hq => Kd.S_typed HS.out q hq) (by decide) G9.out) B9.out (by decide) 1 _) B10.out (by decide) 2 _⟩, (L9.out.setCell HB0.out _).setCell HB0.out _,
    (((HSTK.out.trans (StKeep.below (below_drew (Below.refl _ _)))).trans (StKeep.grown G9.out (fun q hq => Kd.S_typed HS.out q hq) (by decide))).trans (StKeep.set B9.out (by decide))).trans (StKeep.set B10.out (by decide)), fun k _ _ h => absurd trivial h⟩
theorem RdAt.open_ {w : World} {base b : Nat} {ok : Nat → Prop} {p : ByteArray} {r : Rd} (h : RdAt w base b ok p r) : ∃ v0 v1, w.heap[b]? = some (.cells #[.string p, v0, .int .i64 r.fr, .int .i64 r.op, .string r.held, v1, .int .i64 r.bg] 85 (0, 0)) := by
  obtain ⟨_, v0, v1, h1, _⟩ := h
  exact ⟨v0, v1, h1⟩
theorem w64 (n : Nat) (h : n ≤ 1000000) : IntKind.i64.wrap (n : Int) = n := IntWalk.i64_in _ (by omega)
set_option maxHeartbeats 3200000 in
theorem rcomment_calls (w0 w : World) (b gs : Nat) (p : ByteArray) (r : Rd) (s : St) (i : Nat) (hB : Below w0.heap.size w0 w) (hI : RdAt w w0.heap.size b (fun _ => True) p r) (hs : StAt w gs s)
    (h1 : r.fr ≤ r.op) (h2 : r.op + 2 ≤ i) (h3 : s.pos = 17 → r.op + 6 ≤ i) (h4 : i < p.size) (hp : p.size ≤ 65536) (hout : r.out.length ≤ 999990) :
    Calls Tryz.prog 109 #[.pointer (some ⟨b, 0, none⟩), .pointer (some ⟨gs, 0, none⟩), .int .i64 (i : Int)] w (TextP w0 w b (fun _ => True) p (comR p r s i)) := by
  have HTo := Aside0.mk (fun n => told_calls w0 (w.drewN n) b (fun _ => False) p r (comT p r s i) (.slice none 0 0) i (pw_below_drewN hB n) ((hI.drewN n).mono (fun _ _ h => h)) (Kd.R_nil _ _ _ _ _) h1 (by omega) hp hout (by omega))
  obtain ⟨v0, v1, hb1⟩ := hI.open_
  have x0 : w.cell? ⟨b, 0, none⟩ = some (.string p) := (blk_cell hb1 0).trans rfl
  have x3 : w.cell? ⟨b, 3, none⟩ = some (.int .i64 r.op) := (blk_cell hb1 3).trans rfl
  have s0 : w.cell? ⟨gs, 0, none⟩ = some (.int .i64 s.pos) := (blk_cell hs 0).trans rfl
  obtain ⟨o2, ho2⟩ : ∃ o2, r.op + 2 = o2 := ⟨_, rfl⟩
  have hw2 : IntKind.i64.wrap ((r.op : Int) + 2) = (o2 : Int) := by rw [show (r.op : Int) + 2 = (o2 : Int) by omega]; exact w64 _ (by omega)
  unfold comR
  by_cases k17 : s.pos = 17
  · have h6 := h3 k17
    obtain ⟨o1, ho1⟩ : ∃ o1, r.op + 1 = o1 := ⟨_, rfl⟩
    obtain ⟨o4, ho4⟩ : ∃ o4, r.op + 4 = o4 := ⟨_, rfl⟩
    obtain ⟨i2, hi2⟩ : ∃ i2, i - 2 = i2 := ⟨_, rfl⟩
    have hw1 : IntKind.i64.wrap ((r.op : Int) + 1) = (o1 : Int) := by rw [show (r.op : Int) + 1 = (o1 : Int) by omega]; exact w64 _ (by omega)
    have hw4 : IntKind.i64.wrap ((o1 : Int) + 3) = (o4 : Int) := by rw [show (o1 : Int) + 3 = (o4 : Int) by omega]; exact w64 _ (by omega)
    have hwi : IntKind.i64.wrap ((i : Int) - 2) = (i2 : Int) := by rw [show (i : Int) - 2 = (i2 : Int) by omega]; exact w64 _ (by omega)
    have hrun := fun W => slice_run (P := Tryz.prog) 9 p o4 i2 (by omega) (by omega) W Tryz.underlying9
    have HT := Aside0.mk (show comT p r s i = ⟨3, ⟨#[]⟩, p.extract o4 i2, [], false⟩ by unfold comT; rw [if_pos k17, ho4, hi2])
    rw [HT.out] at HTo ⊢
    rw [k17] at s0
    obtain ⟨q, hq⟩ : ∃ q, p.extract o4 i2 = q := ⟨_, rfl⟩
    rw [hq] at hrun HTo ⊢
    clear hB hI hs hb1 h1 h2 h3 h4 hp hout k17 hq HT h6 ho1 ho2 ho4 hi2
    go_enter Tryz.func109, Tryz.ntmps109
    go_wp2_with (go_at_call 165; refine (HTo.out 0).mono ?_; rintro e w2 hT; obtain rfl := hT.ends)
    go_end0
    exact ⟨rfl, hT.at_, hT.low, hT.st, hT.keeps⟩
  · have hrun := fun W => slice_run (P := Tryz.prog) 9 p o2 i (by omega) (by omega) W Tryz.underlying9
    have k17b : (s.pos == 17) = false := by simpa using k17
    have HT := Aside0.mk (show comT p r s i = ⟨3, ⟨#[]⟩, p.extract o2 i, [], false⟩ by unfold comT; rw [if_neg k17, ho2])
    rw [HT.out] at HTo ⊢
    obtain ⟨q, hq⟩ : ∃ q, p.extract o2 i = q := ⟨_, rfl⟩
    rw [hq] at hrun HTo ⊢
    clear hB hI hs hb1 h1 h2 h3 h4 hp hout k17 hq HT ho2
    go_enter Tryz.func109, Tryz.ntmps109
    go_wp2_with (go_at_call 165; refine (HTo.out 0).mono ?_; rintro e w2 hT; obtain rfl := hT.ends)
    go_end0
    exact ⟨rfl, hT.at_, hT.low, hT.st, hT.keeps⟩
set_option maxHeartbeats 3200000 in
theorem tag_calls (w0 w : World) (b gs : Nat) (p : ByteArray) (r : Rd) (s : St) (i : Nat) (hB : Below w0.heap.size w0 w) (hI : RdAt w w0.heap.size b (fun _ => True) p r) (hs : StAt w gs s)
    (h1 : r.fr ≤ r.op) (h2 : r.op ≤ p.size) (hi : i ≤ 65536) (hp : p.size ≤ 65536) (hout : r.out.length ≤ 999990) (hsz : ∀ x ∈ r.ats, x.f1.size ≤ 140737488355328) :
    Calls Tryz.prog 107 #[.pointer (some ⟨b, 0, none⟩), .pointer (some ⟨gs, 0, none⟩), .int .i64 (i : Int)] w (TextP w0 w b (fun _ => True) p (tagR p r s i)) := by
  have HTo := Aside0.mk (fun (W : World) (nm : ByteArray) (hb : Below w.heap.size w W) => told_calls w0 W b (fun _ => False) p r ⟨2, nm, ⟨#[]⟩, [], false⟩ (.slice none 0 0) i (hB.trans (hb.mono hB.size)) ((hI.below hb).mono (fun _ _ h => h)) (Kd.R_nil _ _ _ _ _) h1 h2 hp hout hi)
  have hu := Tryz.underlying41
  have HST := Aside0.mk hs
  have s0 : w.cell? ⟨gs, 0, none⟩ = some (.int .i64 s.pos) := (blk_cell hs 0).trans rfl
  have s1 : w.cell? ⟨gs, 1, none⟩ = some (.string s.name) := (blk_cell hs 1).trans rfl
  have s2 : w.cell? ⟨gs, 2, none⟩ = some (.bool s.fin) := (blk_cell hs 2).trans rfl
  have s4 : w.cell? ⟨gs, 4, none⟩ = some (.string s.held) := (blk_cell hs 4).trans rfl
  have hne := World.new_ne w ⟨gs, 0, none⟩ s0 -- #[.int .i64 1, .string s.name, .string ⟨#[]⟩, .slice none 0 0, .bool false] 41
  have t0 := cell_alloc s0 (.cells #[.int .i64 1, .string s.name, .string ⟨#[]⟩, .slice none 0 0, .bool false] 41)
  have t2 := cell_alloc s2 (.cells #[.int .i64 1, .string s.name, .string ⟨#[]⟩, .slice none 0 0, .bool false] 41)
  have t4 := cell_alloc s4 (.cells #[.int .i64 1, .string s.name, .string ⟨#[]⟩, .slice none 0 0, .bool false] 41)
  unfold tagR
  by_cases k22 : s.pos = 22
  · have HT := Aside0.mk (show tagT r s = ⟨2, s.held, ⟨#[]⟩, [], false⟩ by unfold tagT; rw [if_pos k22])
    rw [HT.out]
    rw [k22] at s0 t0
    clear k22
    go_enter Tryz.func107, Tryz.ntmps107
    go_wp2_with (go_at_call 165; refine (HTo.out _ s.held (below_alloc (Below.refl _ _) _)).mono ?_; rintro e w2 hT; obtain rfl := hT.ends)
    go_end0
    exact ⟨rfl, hT.at_, hT.low, (StKeep.below (below_alloc (Below.refl _ _) _)).trans hT.st, fun k _ _ h => absurd trivial h⟩
  · have k22b : (s.pos == 22) = false := by simpa using k22
    by_cases kf : s.fin = true
    · have HT := Aside0.mk (show tagT r s = ⟨2, s.name, ⟨#[]⟩, [], false⟩ by unfold tagT; rw [if_neg k22, if_pos kf])
      rw [HT.out]
      rw [kf] at s2 t2
      clear k22 kf
      go_enter Tryz.func107, Tryz.ntmps107
      go_wp2_with (go_at_call 165; refine (HTo.out _ s.name (below_alloc (Below.refl _ _) _)).mono ?_; rintro e w2 hT; obtain rfl := hT.ends)
      go_end0
      exact ⟨rfl, hT.at_, hT.low, (StKeep.below (below_alloc (Below.refl _ _) _)).trans hT.st, fun k _ _ h => absurd trivial h⟩
    · have kfb : s.fin = false := by simpa using kf
      have HT := Aside0.mk (show tagT r s = ⟨1, s.name, ⟨#[]⟩, keptR r.ats, s.pos == 12⟩ by unfold tagT; rw [if_neg k22, if_neg kf])
      rw [HT.out]
      rw [kfb] at s2 t2
      obtain ⟨b0, v0, v1, hb1, hS, hR⟩ := id hI
      obtain ⟨A1, c1, rfl, _, hC⟩ := Kd.R_reads hR
      have hk := fun W (hb : Below w.heap.size w W) => kept_calls r.ats A1 c1 b W (pw_cell_below hb ((blk_cell hb1 5).trans rfl)) (Kd.C_below hC hb) hsz
      have HKe := Aside0.mk hk
      have HI := Aside0.mk hI
      have HW0 := Aside0.mk hB.size
      have HB := Aside0.mk hB
      have HTo2 := Aside0.mk (fun (W : World) (va : Value) (hb : Below w.heap.size w W) (hva : Kd.R k39 39 W w0.heap.size (fun k => w.heap.size ≤ k) va (keptR r.ats)) => told_calls w0 W b (fun k => w.heap.size ≤ k) p r ⟨1, s.name, ⟨#[]⟩, keptR r.ats, s.pos == 12⟩ va i (hB.trans (hb.mono hB.size)) ((hI.old hb).mono (fun k hk => Nat.not_le.2 hk.2)) hva h1 h2 hp hout hi)
      obtain ⟨ks, hks⟩ : ∃ ks, keptR r.ats = ks := ⟨_, rfl⟩
      unfold KeptP at HKe
      rw [hks] at HTo2 ⊢
      rw [hks] at HKe
      clear k22 kf HT hk hI hB hS hR hC hb1 b0 HTo h1 h2 hi hp hout hsz hks
      go_enter Tryz.func107, Tryz.ntmps107
      go_wp2
      have ST1 := Aside0.mk (HST.out.alloc (.cells #[.int .i64 1, .string s.name, .string ⟨#[]⟩, .slice none 0 0, .bool false] 41))
      have G1 := Aside0.mk (heap_alloc_new w (.cells #[.int .i64 1, .string s.name, .string ⟨#[]⟩, .slice none 0 0, .bool false] 41))
      have L1 := Aside0.mk (below_alloc (Below.refl w.heap.size w) (.cells #[.int .i64 1, .string s.name, .string ⟨#[]⟩, .slice none 0 0, .bool false] 41))
      obtain ⟨w1, hw1⟩ : ∃ w1, w.alloc (.cells #[.int .i64 1, .string s.name, .string ⟨#[]⟩, .slice none 0 0, .bool false] 41) = w1 := ⟨_, rfl⟩
      rw [hw1] at G1 L1 t0 ST1 ⊢
      obtain ⟨g, hg⟩ : ∃ g, w.heap.size = g := ⟨_, rfl⟩
      have GE := Aside0.mk hg
      rw [hg] at G1 L1 HTo2 HKe HW0 ⊢
      clear hne t2 t4 s0 s1 s2 s4 hg hw1
      refine start_ (n := 11) (S := fun w' => w'.cell? ⟨gs, 0, none⟩ = some (.int .i64 s.pos)) (ds := [10]) #[false, false, false, false, false, false, false, false, false, false, false] (by kernel_rfl) rfl rfl (t0) (fun hHeld => ?_)
      refine pS 0 12 #[true, false, false, false, false, false, false, false, false, false, false] ?_
      refine pS 2 14 #[true, false, true, false, false, false, false, false, false, false, false] ?_
      refine pS 3 15 #[true, false, true, true, false, false, false, false, false, false, false] ?_
      refine pS 4 16 #[true, false, true, true, true, false, false, false, false, false, false] ?_
      refine tS 5 17 #[true, false, true, true, true, true, false, false, false, false, false] hHeld ?_
      refine pS 6 18 #[true, false, true, true, true, true, true, false, false, false, false] ?_
      refine one_ (i := 1) (N := some 13) #[true, true, true, true, true, true, true, false, false, false, false] rfl rfl (by kernel_rfl) (by decide) (fun K hK => ?_)
      refine goes_ Tryz.func164 (by kernel_rfl) rfl #[.pointer (some ⟨b, 0, none⟩)] (by rfl) rfl rfl (by simp only [List.map_toArray, List.map_cons, List.map_nil]; rfl) ?_
      with_reducible refine (HKe.out w1.drew (below_drew L1.out)).mono ?_
      rintro e w3 ⟨va, rfl, hva, hb3⟩
      refine ⟨_, rfl, ?_⟩
      obtain ⟨va1, va2, eva⟩ := Kd.R_slice hva
      subst eva
      have b3 : w3.heap[g]? = some (.cells #[.int .i64 1, .string s.name, .string ⟨#[]⟩, .slice none 0 0, .bool false] 41 (0, 0)) := blk_below (w := w1.drew) G1.out hb3
      have st3 : StAt w3 gs s := StAt.below (w := w1.drew) ST1.out hb3
      have sh : (w3.setCell ⟨g, 3, none⟩ (.slice va1 ks.length va2)).cell? ⟨gs, 0, none⟩ = some (.int .i64 s.pos) := (blk_cell (blk_far st3 (blk_ne st3 b3 (by decide)) _) 0).trans rfl
      have q3 : w3.cell? ⟨g, 3, none⟩ = some (.slice none 0 0) := (blk_cell b3 3).trans rfl
      have f3 : w3.frozen? ⟨g, 3, none⟩ = false := blk_frozen b3 3
      have b4 := blk_set b3 3 (.slice va1 ks.length va2)
      have q4 : (w3.setCell ⟨g, 3, none⟩ (.slice va1 ks.length va2)).cell? ⟨g, 4, none⟩ = some (.bool false) := (blk_cell b4 4).trans rfl
      have f4 : (w3.setCell ⟨g, 3, none⟩ (.slice va1 ks.length va2)).frozen? ⟨g, 4, none⟩ = false := blk_frozen b4 4
      refine hK.out _ _ ((pw_cell_below (w := w1.drew) hb3 t0)) (fun hHeld => ?_)
      clear hK K
      refine norm_ (a' := ?_) ?_ ?_
      rotate_left
      · show Act.put _ (some 13) _ = _
        simp only [Act.put, zA, zZ, zS, i64_w, i32_w]
        rfl
      refine pS 7 19 #[true, true, true, true, true, true, true, true, false, false, false] ?_
      refine one_ (i := 8) (N := none) #[true, true, true, true, true, true, true, true, true, false, false] rfl rfl (by kernel_rfl) (by decide) (fun K hK => ?_)
      refine skip_ (w1 := ?_) (by rfl) rfl ?_ ?_
      rotate_left
      · go_simp
        rfl
      refine hK.out _ _ (sh) (fun hHeld => ?_)
      clear hK K
      refine pS 9 20 #[true, true, true, true, true, true, true, true, true, true, false] ?_
      refine last_ (i := 10) (N := none) #[true, true, true, true, true, true, true, true, true, true, true] rfl rfl (by kernel_rfl) (by decide) (fun K hK => ?_)
      refine skip_ (w1 := ?_) (by rfl) rfl ?_ ?_
      rotate_left
      · go_simp
        rfl
      refine hK.out _ _ ?_
      clear hK K
      refine done_ (by kernel_rfl) ?_
      have hle : g ≤ w1.drew.heap.size := by rw [← GE.out]; exact (below_drew L1.out).size
      have b5 := blk_set b4 4 (.bool (s.pos == 12))
      have L3 : Below g w w3 := (below_drew L1.out).trans (hb3.mono hle)
      have L5 := Aside0.mk ((L3.setCell (p := ⟨g, 3, none⟩) (Nat.le_refl _) (.slice va1 ks.length va2)).setCell (p := ⟨g, 4, none⟩) (Nat.le_refl _) (.bool (s.pos == 12)))
      have R5 := Aside0.mk (Kd.R_set (Kd.R_set hva b3 (by decide) 3 (.slice va1 ks.length va2)) b4 (by decide) 4 (.bool (s.pos == 12)))
      obtain ⟨w5, hw5⟩ : ∃ w5, (w3.setCell ⟨g, 3, none⟩ (.slice va1 ks.length va2)).setCell ⟨g, 4, none⟩ (.bool (s.pos == 12)) = w5 := ⟨_, rfl⟩
      rw [hw5] at b5 L5 R5 ⊢
      have y0 : w5.cell? ⟨g, 0, none⟩ = some (.int .i64 1) := (blk_cell b5 0).trans rfl
      have y1 : w5.cell? ⟨g, 1, none⟩ = some (.string s.name) := (blk_cell b5 1).trans rfl
      have y2 : w5.cell? ⟨g, 2, none⟩ = some (.string ⟨#[]⟩) := (blk_cell b5 2).trans rfl
      have y3 : w5.cell? ⟨g, 3, none⟩ = some (.slice va1 ks.length va2) := (blk_cell b5 3).trans rfl
      have y4 : w5.cell? ⟨g, 4, none⟩ = some (.bool (s.pos == 12)) := (blk_cell b5 4).trans rfl
      have HK5 := Aside0.mk (HTo2.out w5 _ L5.out (Kd.R_lower (Kd.R_mono (Kd.R_bound R5.out) (fun k hk => Nat.le_trans hle hk.2.1)) (by have := HW0.out; omega)))
      clear b3 b4 b5 st3 sh q3 f3 q4 f4 hw5 hb3 hva L3 t0
      go_wp2_with (go_at_call 165; refine HK5.out.mono ?_; rintro e w6 hT; obtain rfl := hT.ends)
      go_end0
      exact ⟨rfl, hT.at_, hT.low, (StKeep.below (by rw [GE.out]; exact L5.out)).trans hT.st, fun k _ _ h => absurd trivial h⟩
theorem R_last {W : World} {base : Nat} {ok : Nat → Prop} {v : Value} {xs : List S39} (h : Kd.R k39 39 W base ok v xs) (hn : 0 < xs.length) :
    ∃ g cap, v = .slice (some ⟨g, 0, none⟩) xs.length cap ∧ base ≤ g ∧ (∃ cells, W.heap[g]? = some (.cells cells 39 (0, 0))) ∧
      (∃ u0 u1, W.cell? ⟨g, (xs.length - 1) * 2, none⟩ = some u0 ∧ W.cell? ⟨g, (xs.length - 1) * 2 + 1, none⟩ = some u1) ∧ (∀ j, W.frozen? ⟨g, (xs.length - 1) * 2 + j, none⟩ = false) ∧
      (∀ s : ByteArray, Kd.R k39 39 (W.setCell ⟨g, (xs.length - 1) * 2, none⟩ (.string s)) base ok v (setName xs s) ∧ W.grownBy (W.setCell ⟨g, (xs.length - 1) * 2, none⟩ (.string s)) (some g)) ∧
      (∀ s : ByteArray, Kd.R k39 39 (W.setCell ⟨g, (xs.length - 1) * 2 + 1, none⟩ (.string s)) base ok v (setVal xs s) ∧ W.grownBy (W.setCell ⟨g, (xs.length - 1) * 2 + 1, none⟩ (.string s)) (some g)) := by
  obtain ⟨g, cap, rfl, hb, hl, hc⟩ := Kd.R_form h hn
  obtain ⟨c, hcl, hM, hcc, hfr⟩ := Kd.R_elem h z39 ((xs.length : Int) - 1) (by omega) (by omega)
  have hi : ((xs.length : Int) - 1).toNat = xs.length - 1 := by omega
  have hx : xs.getD ((xs.length : Int) - 1).toNat z39 = rd_T39 xs ((xs.length : Int) - 1) := rfl
  rw [hx] at hM
  obtain rfl := k39_openM hM
  have sn := fun s : ByteArray => Kd.R_seg (seg := [.string s]) (j := 0) (okp := fun _ => False) h ((xs.length : Int) - 1) (by omega) (by omega) hcl hcc (show 0 + 1 ≤ 2 by decide) (x' := (⟨s, (rd_T39 xs ((xs.length : Int) - 1)).f1⟩ : S39)) (k39_mkM _ _ _ _) (fun _ hk => hk.elim)
  have sv := fun s : ByteArray => Kd.R_seg (seg := [.string s]) (j := 1) (okp := fun _ => False) h ((xs.length : Int) - 1) (by omega) (by omega) hcl hcc (show 1 + 1 ≤ 2 by decide) (x' := (⟨(rd_T39 xs ((xs.length : Int) - 1)).f0, s⟩ : S39)) (k39_mkM _ _ _ _) (fun _ hk => hk.elim)
  have h0 := hcc 0 _ rfl
  have h1 := hcc 1 _ rfl
  rw [hi] at h0 h1 hfr sn sv
  exact ⟨g, cap, rfl, hb, hc, ⟨_, _, h0, h1⟩, fun j => hfr j, sn, sv⟩
set_option maxHeartbeats 1600000 in
theorem last_calls (w : World) (b g cap n : Nat) (hb : w.cell? ⟨b, 5, none⟩ = some (.slice (some ⟨g, 0, none⟩) n cap)) (hn : 0 < n) (hm : n ≤ 1000000) :
    Calls Tryz.prog 166 #[.pointer (some ⟨b, 0, none⟩)] w fun e w' => e = .returned (.pointer (some ⟨g, (n - 1) * 2, none⟩)) ∧ Drawn0 w w' := by
  obtain ⟨j, hj⟩ : ∃ j : Nat, n - 1 = j := ⟨_, rfl⟩
  have hw : IntKind.i64.wrap ((n : Int) - 1) = (j : Int) := by rw [show (n : Int) - 1 = (j : Int) by omega]; exact w64 _ (by omega)
  have p1 : ((j : Int) < (n : Int)) = True := eq_true (by omega)
  rw [hj]
  clear hj hn
  go_enter Tryz.func166, Tryz.ntmps166
  go_wp2
  go_quiet (fail)
  go_wp2
  go_ret
  exact ⟨by simp, by repeat (first | exact Drawn0.refl _ | apply Drawn0.step)⟩
def nmR (r : Rd) (s : ByteArray) : Rd := { r with ats := setName r.ats s }
def vlR (r : Rd) (s : ByteArray) : Rd := { r with ats := setVal r.ats s }
def anR (r : Rd) : Rd := { r with ats := r.ats ++ [⟨⟨#[]⟩, ⟨#[]⟩⟩] }
def bgR (r : Rd) (k : Nat) : Rd := { r with bg := k }
theorem tail_facts {w0 w w2 : World} {b : Nat} {p : ByteArray} {r2 : Rd} (hI : RdAt w2 w0.heap.size b (fun _ => True) p r2) (hn : 0 < r2.ats.length) (hst : StKeep w w2) (hL : Below w0.heap.size w0 w2) (j : Nat) (hj : r2.ats.length - 1 = j) :
    ∃ g cap u0 u1, w2.cell? ⟨b, 5, none⟩ = some (.slice (some ⟨g, 0, none⟩) r2.ats.length cap) ∧ w2.cell? ⟨b, 0, none⟩ = some (.string p) ∧ w2.cell? ⟨b, 6, none⟩ = some (.int .i64 r2.bg) ∧ w2.cell? ⟨g, j * 2, none⟩ = some u0 ∧ w2.cell? ⟨g, j * 2 + 1, none⟩ = some u1 ∧ w2.frozen? ⟨g, j * 2, none⟩ = false ∧ w2.frozen? ⟨g, j * 2 + 1, none⟩ = false ∧
      (∀ W s, Drawn0 w2 W → TextP w0 w b (fun _ => True) p (nmR r2 s) (.returned (.tuple #[])) (W.setCell ⟨g, j * 2, none⟩ (.string s))) ∧ (∀ W s, Drawn0 w2 W → TextP w0 w b (fun _ => True) p (vlR r2 s) (.returned (.tuple #[])) (W.setCell ⟨g, j * 2 + 1, none⟩ (.string s))) := by
  obtain ⟨hb0, v0, v1, hb1, hS, hR⟩ := hI
  obtain ⟨g, cap, rfl, hg0, ⟨cells, hgc⟩, ⟨u0, u1, h0, h1⟩, hf, sn, sv⟩ := R_last hR hn
  rw [hj] at h0 h1 hf sn sv
  have hgb : g ≠ b := blk_ne hgc hb1 (by decide)
  have key : ∀ (m k : Nat) (s : ByteArray) (xs : List S39), Kd.R k39 39 (w2.setCell ⟨g, k, none⟩ (.string s)) w0.heap.size (fun _ => True) (.slice (some ⟨g, 0, none⟩) r2.ats.length cap) xs → w2.grownBy (w2.setCell ⟨g, k, none⟩ (.string s)) (some g) →
      TextP w0 w b (fun _ => True) p { r2 with ats := xs } (.returned (.tuple #[])) ((w2.drewN m).setCell ⟨g, k, none⟩ (.string s)) := by
    intro m k s xs hR' hg'
    have hgc' : (w2.drewN m).heap[g]? = some (.cells cells 39 (0, 0)) := hgc
    refine ⟨rfl, ⟨hb0, v0, _, blk_far (w := w2.drewN m) hb1 (Ne.symm hgb) _, Kd.S_far (Kd.S_drewN hS m) (p := ⟨g, k, none⟩) (fun q hq e => hq.2 (by subst e; rfl)) _, ?_⟩, (pw_below_drewN hL m).setCell hg0 _, (hst.trans (StKeep.below (pw_below_drewN (Below.refl _ _) m))).trans (StKeep.set hgc' (by decide)), fun _ _ _ h => absurd trivial h⟩
    exact Kd.R_step (w1 := (w2.drewN m).setCell ⟨g, k, none⟩ (.string s)) hR' (fun _ _ _ => rfl)
  refine ⟨g, cap, u0, u1, (blk_cell hb1 5).trans rfl, (blk_cell hb1 0).trans rfl, (blk_cell hb1 6).trans rfl, h0, h1, hf 0, hf 1, ?_, ?_⟩
  · rintro W s ⟨m, rfl⟩
    exact key m _ s _ (sn s).1 (sn s).2
  · rintro W s ⟨m, rfl⟩
    exact key m _ s _ (sv s).1 (sv s).2
theorem RdAt.bg {w : World} {base b : Nat} {p : ByteArray} {r : Rd} (h : RdAt w base b (fun _ => True) p r) (k : Nat) : RdAt (w.setCell ⟨b, 6, none⟩ (.int .i64 (k : Int))) base b (fun _ => True) p (bgR r k) := by
  obtain ⟨hb0, v0, v1, hb1, hS, hR⟩ := h
  exact ⟨hb0, v0, v1, blk_set hb1 6 _, Kd.S_set hS hb1 (by decide) 6 _, Kd.R_set hR hb1 (by decide) 6 _⟩
theorem RdAt.op {w : World} {base b : Nat} {p : ByteArray} {r : Rd} (h : RdAt w base b (fun _ => True) p r) (k : Nat) : RdAt (w.setCell ⟨b, 3, none⟩ (.int .i64 (k : Int))) base b (fun _ => True) p { r with op := k } := by
  obtain ⟨hb0, v0, v1, hb1, hS, hR⟩ := h
  exact ⟨hb0, v0, v1, blk_set hb1 3 _, Kd.S_set hS hb1 (by decide) 3 _, Kd.R_set hR hb1 (by decide) 3 _⟩
theorem RdAt.held {w : World} {base b : Nat} {p : ByteArray} {r : Rd} (h : RdAt w base b (fun _ => True) p r) (k : ByteArray) : RdAt (w.setCell ⟨b, 4, none⟩ (.string k)) base b (fun _ => True) p { r with held := k } := by
  obtain ⟨hb0, v0, v1, hb1, hS, hR⟩ := h
  exact ⟨hb0, v0, v1, blk_set hb1 4 _, Kd.S_set hS hb1 (by decide) 4 _, Kd.R_set hR hb1 (by decide) 4 _⟩
theorem RdAt.nil {w : World} {base b : Nat} {p : ByteArray} {r : Rd} (h : RdAt w base b (fun _ => True) p r) : RdAt (w.setCell ⟨b, 5, none⟩ (.slice none 0 0)) base b (fun _ => True) p { r with ats := [] } := by
  obtain ⟨hb0, v0, v1, hb1, hS, hR⟩ := h
  exact ⟨hb0, v0, _, blk_set hb1 5 _, Kd.S_set (Kd.S_mono hS (fun _ h => ⟨trivial, by simp [Value.ownBlock]⟩)) hb1 (by decide) 5 _, Kd.R_nil _ _ _ _ _⟩
theorem RdAt.cells {w : World} {base b : Nat} {ok : Nat → Prop} {p : ByteArray} {r : Rd} (h : RdAt w base b ok p r) : w.cell? ⟨b, 0, none⟩ = some (.string p) ∧ w.cell? ⟨b, 2, none⟩ = some (.int .i64 r.fr) ∧ w.cell? ⟨b, 3, none⟩ = some (.int .i64 r.op) ∧ w.cell? ⟨b, 4, none⟩ = some (.string r.held) ∧ w.cell? ⟨b, 6, none⟩ = some (.int .i64 r.bg) ∧ (∃ A c, w.cell? ⟨b, 5, none⟩ = some (.slice A r.ats.length c)) ∧ (∃ A c, w.cell? ⟨b, 1, none⟩ = some (.slice A r.out.length c)) ∧ (∀ j, w.frozen? ⟨b, j, none⟩ = false) ∧ ∃ cs, w.heap[b]? = some (.cells cs 85 (0, 0)) := by
  obtain ⟨hb0, v0, v1, hb1, hS, hR⟩ := h
  obtain ⟨A0, c0, rfl⟩ := Kd.S_slice hS
  obtain ⟨A1, c1, rfl⟩ := Kd.R_slice hR
  exact ⟨(blk_cell hb1 0).trans rfl, (blk_cell hb1 2).trans rfl, (blk_cell hb1 3).trans rfl, (blk_cell hb1 4).trans rfl, (blk_cell hb1 6).trans rfl, ⟨A1, c1, (blk_cell hb1 5).trans rfl⟩, ⟨A0, c0, (blk_cell hb1 1).trans rfl⟩, fun j => blk_frozen hb1 j, _, hb1⟩
end Go.Proofs.YtfmcdlbbbmeolaaGreatDoor.Tk
end
