/- stolelaw7.TreeForms: walked. -/
import Derived.Test.YtkhgnaakcaghjaaTrFold
import Derived.Test.YtkhgnaakcaghjaaXB1
import Derived.Deep.DeepCutAuto
import Derived.Deep.CutBlock
import Derived.Lib.SmallJoins
namespace Go.Proofs.Ytkhgnaakcaghjaa.Tr
open Go.RowKit Go.Proofs.Ytkhgnaakcaghjaa.XA Go.Proofs.Ytkhgnaakcaghjaa.Base Go.Proofs.Ytkhgnaakcaghjaa.Ext Go.Proofs.YtkhgnaakcaghjaaW.PrintWords Go.Proofs.YtkhgnaakcaghjaaW.PrintLast Go.Proofs.YtkhgnaakcaghjaaW.PrintMore
attribute [local go_sem ↓] Go.wp_at_zero Go.wp_at_succ
set_option linter.unusedVariables false
set_option linter.unusedSimpArgs false

theorem C_box (w : World) (t : S41) (A : Option Addr) (c : Nat) (hl : t.f3.length ≤ c) (hC : Kd.C k48 w A t.f3.length t.f3) :
    Kd.C k41 (w.alloc (.cells #[.int .i64 t.f0, .string t.f1, .string t.f2, .slice A t.f3.length c, .bool t.f4] 41)) (some ⟨w.heap.size, 0, none⟩) 1 [t] := by
  have hK : k41.K (w.alloc (.cells #[.int .i64 t.f0, .string t.f1, .string t.f2, .slice A t.f3.length c, .bool t.f4] 41)) t [.int .i64 t.f0, .string t.f1, .string t.f2, .slice A t.f3.length c, .bool t.f4] :=
    k41_mk _ t hl (Kd.C_below hC (below_alloc (Below.refl _ _) _))
  have := OwnRow.lit (R := k41.K (w.alloc (.cells #[.int .i64 t.f0, .string t.f1, .string t.f2, .slice A t.f3.length c, .bool t.f4] 41))) (e := 41) (size := 5) w 0 (ps := [t]) (inner := [.int .i64 t.f0, .string t.f1, .string t.f2, .slice A t.f3.length c, .bool t.f4]) ⟨rfl, fun j p hp => by
      have hj : j < [t].length := (List.getElem?_eq_some_iff.1 hp).1
      obtain rfl : j = 0 := by simp at hj; omega
      obtain rfl : t = p := by simpa using hp
      exact hK⟩ (Nat.zero_le _) (by simp)
  obtain ⟨A', c', hv, hc', hr⟩ := this.reads
  injection hv with h1 h2 h3
  subst h1
  exact hr
theorem start_walk (nm : ByteArray) (w : World) : Calls Try.prog 16 #[.string nm] w fun e w' => e = .returned (.agg #[.int .i64 1, .string nm, .string ⟨#[]⟩, .slice none 0 0, .bool false]) ∧ Below w.heap.size w w' := by
  have HB := Aside0.mk (Below.refl w.heap.size w)
  go_enter Try.func16, Try.ntmps16
  go_wp2
  exact bodyPost_ret (v := .agg #[.int .i64 1, .string nm, .string ⟨#[]⟩, .slice none 0 0, .bool false]) (by simp [results, Try.results16, go_sem]) rfl ⟨rfl, below_alloc (Below.refl _ _) _⟩
theorem C_attrs2 (w : World) (a b c d : ByteArray) : Kd.C k48 (w.alloc (.cells #[.string a, .string b, .string c, .string d] 48)) (some ⟨w.heap.size, 0, none⟩) 2 [⟨a, b⟩, ⟨c, d⟩] := by
  have := OwnRow.lit (R := k48.K (w.alloc (.cells #[.string a, .string b, .string c, .string d] 48))) (e := 48) (size := 2) w 0 (ps := [⟨a, b⟩, ⟨c, d⟩]) (inner := [.string a, .string b, .string c, .string d]) ⟨rfl, fun j p hp => by
      have hj : j < 2 := (List.getElem?_eq_some_iff.1 hp).1
      obtain rfl | rfl : j = 0 ∨ j = 1 := by omega
      · obtain rfl : (⟨a, b⟩ : S48) = p := by simpa using hp
        exact k48_mk _ _
      · obtain rfl : (⟨c, d⟩ : S48) = p := by simpa using hp
        exact k48_mk _ _⟩ (Nat.zero_le _) (by simp)
  obtain ⟨A', c', hv, hc', hr⟩ := this.reads
  injection hv with h1 h2 h3
  subst h1
  exact hr
theorem build_one (w : World) (t : S41) (A : Option Addr) (c : Nat) (hl : t.f3.length ≤ c) (hC : Kd.C k48 w A t.f3.length t.f3) (hs : t.f2.size ≤ 1) :
    Calls Try.prog 9 #[.slice (some ⟨w.heap.size, 0, none⟩) 1 1] (w.alloc (.cells #[.int .i64 t.f0, .string t.f1, .string t.f2, .slice A t.f3.length c, .bool t.f4] 41)) (BuildP [t] (w.alloc (.cells #[.int .i64 t.f0, .string t.f1, .string t.f2, .slice A t.f3.length c, .bool t.f4] 41))) :=
  build_calls [t] _ 1 _ (C_box w t A c hl hC) (by simp [toks]; omega)
/-- The token's own variable, a box of five cells. -/
def Box (w : World) (g : Nat) (t : S41) : Prop := ∃ A c, w.heap[g]? = some (.cells #[.int .i64 t.f0, .string t.f1, .string t.f2, .slice A t.f3.length c, .bool t.f4] 41 (0, 0)) ∧ t.f3.length ≤ c ∧ Kd.C k48 w A t.f3.length t.f3
def t0 : S41 := ⟨1, ⟨#[112]⟩, ⟨#[]⟩, [⟨⟨#[97]⟩, ⟨#[]⟩⟩, ⟨⟨#[98]⟩, ⟨#[]⟩⟩], false⟩
def two (w : World) : World := (w.alloc (.cells #[.string ⟨#[97]⟩, .string ⟨#[]⟩, .string ⟨#[98]⟩, .string ⟨#[]⟩] 48)).alloc (.cells #[.int .i64 1, .string ⟨#[112]⟩, .string ⟨#[]⟩, .slice (some ⟨w.heap.size, 0, none⟩) 2 2, .bool false] 41)
theorem build_t0 (w : World) : Calls Try.prog 9 #[.slice (some ⟨w.heap.size + 1 + 1, 0, none⟩) 1 1] ((two w).alloc (.cells #[.int .i64 1, .string ⟨#[112]⟩, .string ⟨#[]⟩, .slice (some ⟨w.heap.size, 0, none⟩) 2 2, .bool false] 41)) (BuildP [t0] ((two w).alloc (.cells #[.int .i64 1, .string ⟨#[112]⟩, .string ⟨#[]⟩, .slice (some ⟨w.heap.size, 0, none⟩) 2 2, .bool false] 41))) := by
  have h := build_one (two w) t0 (some ⟨w.heap.size, 0, none⟩) 2 (by decide) (Kd.C_below (C_attrs2 w _ _ _ _) (below_alloc (Below.refl _ _) _)) (by decide)
  have e : (two w).heap.size = w.heap.size + 1 + 1 := by rw [two, World.size_alloc, World.size_alloc]
  rw [e] at h
  exact h
/-- The world behind the first Build. -/
structure W2 (w : World) (s : Nat) (w2 : World) : Prop where
  le : w.heap.size ≤ s
  b0 : w2.heap[s]? = some (.cells #[.string ⟨#[97]⟩, .string ⟨#[]⟩, .string ⟨#[98]⟩, .string ⟨#[]⟩] 48 (0, 0))
  b1 : w2.heap[s + 1]? = some (.cells #[.int .i64 1, .string ⟨#[112]⟩, .string ⟨#[]⟩, .slice (some ⟨s, 0, none⟩) 2 2, .bool false] 41 (0, 0))
  bel : Below w.heap.size w w2
theorem W2.of {w w1 w2 : World} (h1 : Below w.heap.size w w1) (h2 : Below ((two w1).alloc (.cells #[.int .i64 1, .string ⟨#[112]⟩, .string ⟨#[]⟩, .slice (some ⟨w1.heap.size, 0, none⟩) 2 2, .bool false] 41)).heap.size ((two w1).alloc (.cells #[.int .i64 1, .string ⟨#[112]⟩, .string ⟨#[]⟩, .slice (some ⟨w1.heap.size, 0, none⟩) 2 2, .bool false] 41)) w2) : W2 w w1.heap.size w2 := by
  have e : ((two w1).alloc (.cells #[.int .i64 1, .string ⟨#[112]⟩, .string ⟨#[]⟩, .slice (some ⟨w1.heap.size, 0, none⟩) 2 2, .bool false] 41)).heap.size = w1.heap.size + 3 := by rw [World.size_alloc, two, World.size_alloc, World.size_alloc]
  have l := h1.size
  refine ⟨l, ?_, ?_, ?_⟩
  · rw [h2.block _ (by rw [e]; omega)]
    have a1 := heap_alloc_new w1 (.cells #[.string ⟨#[97]⟩, .string ⟨#[]⟩, .string ⟨#[98]⟩, .string ⟨#[]⟩] 48)
    rw [(below_alloc (Below.refl _ _) _).block _ (by rw [two, World.size_alloc, World.size_alloc]; omega), two, (below_alloc (Below.refl _ _) _).block _ (by rw [World.size_alloc]; omega)]
    exact a1
  · rw [h2.block _ (by rw [e]; omega), (below_alloc (Below.refl _ _) _).block _ (by rw [two, World.size_alloc, World.size_alloc]; omega), two]
    have a1 := heap_alloc_new (w1.alloc (.cells #[.string ⟨#[97]⟩, .string ⟨#[]⟩, .string ⟨#[98]⟩, .string ⟨#[]⟩] 48)) (.cells #[.int .i64 1, .string ⟨#[112]⟩, .string ⟨#[]⟩, .slice (some ⟨w1.heap.size, 0, none⟩) 2 2, .bool false] 41)
    rw [World.size_alloc] at a1
    exact a1
  · have h3 : Below w.heap.size w (two w1) := ((h1.alloc h1.size _).alloc (by rw [World.size_alloc]; omega) _)
    exact (h3.alloc (by rw [two, World.size_alloc, World.size_alloc]; omega) _).trans (h2.mono (by rw [e]; omega))
theorem set_block {w : World} {g i : Nat} {cs : Array Value} {t : TypeId} (h : w.heap[g]? = some (.cells cs t (0, 0))) (v : Value) : (w.setCell ⟨g, i, none⟩ v).heap[g]? = some (.cells (cs.setIfInBounds i v) t (0, 0)) := Go.Joins.block_setCell h v
theorem Box.two {w : World} {s : Nat} {k : Int} {nm tx a b c d : ByteArray} {f : Bool} (h0 : w.heap[s]? = some (.cells #[.string a, .string b, .string c, .string d] 48 (0, 0)))
    (h1 : w.heap[s + 1]? = some (.cells #[.int .i64 k, .string nm, .string tx, .slice (some ⟨s, 0, none⟩) 2 2, .bool f] 41 (0, 0))) : Box w (s + 1) ⟨k, nm, tx, [⟨a, b⟩, ⟨c, d⟩], f⟩ := by
  refine ⟨some ⟨s, 0, none⟩, 2, h1, Nat.le_refl _, rfl, (by decide : (2 : Nat) ≤ 9223372036854775807), fun _ => ⟨⟨s, 0, none⟩, rfl, fun j p hp => ?_⟩⟩
  have hj : j < 2 := (List.getElem?_eq_some_iff.1 hp).1
  obtain rfl | rfl : j = 0 ∨ j = 1 := by omega
  · obtain rfl : (⟨a, b⟩ : S48) = p := by simpa using hp
    refine ⟨[.string a, .string b], rfl, k48_mk _ _, fun i u hu => ?_⟩
    have hi : i < 2 := (List.getElem?_eq_some_iff.1 hu).1
    obtain rfl | rfl : i = 0 ∨ i = 1 := by omega
    · rw [← hu]; exact (blk_cell h0 0).trans rfl
    · rw [← hu]; exact (blk_cell h0 1).trans rfl
  · obtain rfl : (⟨c, d⟩ : S48) = p := by simpa using hp
    refine ⟨[.string c, .string d], rfl, k48_mk _ _, fun i u hu => ?_⟩
    have hi : i < 2 := (List.getElem?_eq_some_iff.1 hu).1
    obtain rfl | rfl : i = 0 ∨ i = 1 := by omega
    · rw [← hu]; exact (blk_cell h0 2).trans rfl
    · rw [← hu]; exact (blk_cell h0 3).trans rfl
theorem Box.nil {w : World} {g : Nat} {k : Int} {nm tx : ByteArray} {f : Bool} (h1 : w.heap[g]? = some (.cells #[.int .i64 k, .string nm, .string tx, .slice none 0 0, .bool f] 41 (0, 0))) : Box w g ⟨k, nm, tx, [], f⟩ :=
  ⟨_, 0, h1, Nat.le_refl _, Kd.C_nil _ _⟩
theorem infoAttr : (Try.prog.info? 48).map (fun i => (i.zero, i.size, i.bytes)) = some (some (.agg #[.string ⟨#[]⟩, .string ⟨#[]⟩]), 2, 32) := by kernel_rfl
theorem make_attrs (w : World) (n : Int) (h0 : 0 ≤ n) (h1 : n ≤ 1000) : (Instr.makeSlice 36 (.int .i64 n) (.int .i64 n)).run Try.prog w = .ok (.slice (some ⟨w.heap.size, 0, none⟩) n.toNat n.toNat) (w.alloc (.cells (madeCells #[.string ⟨#[]⟩, .string ⟨#[]⟩] (n.toNat * 2)) 48)) := by
  obtain ⟨i0, hi, hzz⟩ := Option.map_eq_some_iff.1 infoAttr
  simp only [Prod.mk.injEq] at hzz
  obtain ⟨hz0, hz1, hz2⟩ := hzz
  have hr := run_make (P := Try.prog) w 36 48 i0 _ Try.underlying36 hi hz0 .i64 .i64 n n (by omega) (by omega) (by rw [hz2]; omega) (by omega)
  rw [hz1] at hr
  exact hr
theorem Box.made {w : World} {s : Nat} (h1 : w.heap[s + 1]? = some (.cells #[.int .i64 1, .string ⟨#[112]⟩, .string ⟨#[]⟩, .slice (some ⟨s, 0, none⟩) 2 2, .bool false] 41 (0, 0))) (m : Nat) (hm : m ≤ 1000) :
    Box ((w.alloc (.cells (madeCells #[.string ⟨#[]⟩, .string ⟨#[]⟩] (m * 2)) 48)).setCell ⟨s + 1, 3, none⟩ (.slice (some ⟨w.heap.size, 0, none⟩) m m)) (s + 1) ⟨1, ⟨#[112]⟩, ⟨#[]⟩, List.replicate m ⟨⟨#[]⟩, ⟨#[]⟩⟩, false⟩ := by
  have h2 := (below_alloc (Below.refl w.heap.size w) (.cells (madeCells #[.string ⟨#[]⟩, .string ⟨#[]⟩] (m * 2)) 48)).block _ (blk_lt h1)
  have h3 := h2.trans h1
  have hO := OwnRow.lit (R := k48.K ((w.alloc (.cells (madeCells #[.string ⟨#[]⟩, .string ⟨#[]⟩] (m * 2)) 48)).setCell ⟨s + 1, 3, none⟩ (.slice (some ⟨w.heap.size, 0, none⟩) m m))) (e := 48) (size := 2) w 0 (ps := List.replicate m ⟨⟨#[]⟩, ⟨#[]⟩⟩) (inner := (madeCells #[.string ⟨#[]⟩, .string ⟨#[]⟩] (m * 2)).toList)
    (Kd.reps_made (z := .agg #[.string ⟨#[]⟩, .string ⟨#[]⟩]) (z0 := (⟨⟨#[]⟩, ⟨#[]⟩⟩ : S48)) rfl (by decide) (k48_mk _ _) m) (Nat.zero_le _) (by rw [List.length_replicate]; omega)
  have hO2 := OwnRow.set_ hO h3 (by decide) 3 (.slice (some ⟨w.heap.size, 0, none⟩) m m)
  obtain ⟨A', c', hv, hc', hr⟩ := hO2.reads
  injection hv with e1 e2 e3
  subst e1; subst e3
  have h4 : (List.replicate m (⟨⟨#[]⟩, ⟨#[]⟩⟩ : S48)).length = m := List.length_replicate
  refine ⟨some ⟨w.heap.size, 0, none⟩, m, ?_, by rw [h4]; exact Nat.le_refl _, hr⟩
  rw [h4]
  exact (set_block h3 _).trans rfl
def br : S41 := ⟨1, ⟨#[98, 114]⟩, ⟨#[]⟩, [], false⟩
theorem foldT_br (n : Nat) : ∀ p, (foldT (List.replicate n br) p).1.length = p.1.length + n := by
  induction n with
  | zero => intro p; rfl
  | succ n ih =>
    intro p
    have h := ih (stepF p.1 p.2 br)
    have h2 : (stepF p.1 p.2 br).1.length = p.1.length + 1 := by rw [br, step_start]; simp
    rw [h2] at h
    rw [List.replicate_succ]
    exact h.trans (by omega)
theorem brs_may (n : Nat) : (List.replicate n br).all mayB = true := by
  rw [List.all_eq_true]; intro x hx; rw [(List.mem_replicate.1 hx).2]; decide +kernel
theorem brs_toks (n : Nat) : toks (List.replicate n br) = 0 := by
  induction n with
  | zero => rfl
  | succ n ih => 
    rw [List.replicate_succ]
    have : toks (br :: List.replicate n br) = 0 + toks (List.replicate n br) := rfl
    rw [this, ih]
theorem build_brs : ∃ ns : List S38, buildF (List.replicate 4095 br) = (ns, 0) ∧ ns.length = 4096 :=
  ⟨_, buildF_ok _ (brs_may _) (by rw [stT, foldT_br]; simp), by rw [stT, foldT_br]; simp⟩
theorem build_full : buildF (List.replicate 4096 br) = ([], 701) :=
  buildF_full _ (brs_may _) (by rw [stT, foldT_br]; simp)
theorem build_bad (t : S41) (h : mayB t = false) : buildF [t] = ([], 700) := by unfold buildF; rw [if_neg (by simp [h])]
theorem build_t0F : (buildF [t0]).2 = 0 := by decide +kernel
theorem infoTok : (Try.prog.info? 41).map (fun i => (i.zero, i.size, i.bytes)) = some (some (.agg #[.int .i64 0, .string ⟨#[]⟩, .string ⟨#[]⟩, .slice none 0 0, .bool false]), 5, 72) := by kernel_rfl
theorem brs_add (k : Nat) : List.replicate k br ++ [br] = List.replicate (k + 1) br := List.replicate_succ'.symm
theorem many_calls (n : Nat) (A : Option Addr) (c : Nat) (w : World) (base : Nat) (ok : Nat → Prop) (h : Kd.S k41 41 w base ok (.slice A n c) (List.replicate n br)) :
    Calls Try.prog 9 #[.slice A n c] w (BuildP (List.replicate n br) w) := by
  have := build_calls (List.replicate n br) A c w (Kd.S_reads' h).2.2 (by rw [brs_toks]; exact Nat.zero_le _)
  rwa [List.length_replicate] at this
set_option maxHeartbeats 6400000 in
set_option maxRecDepth 100000 in
theorem forms_calls (a b : Int) (w : World) :
    Calls Try.prog 6 #[.int .i64 a, .int .i64 b] w fun e w' => e = .returned (.bool true) ∧ Below w.heap.size w w' := by
  have HAw := Aside0.mk (XB.stolelaw7_awake.calls true w (by decide +kernel))
  obtain ⟨d, hd⟩ : ∃ d : Int, Go.bits .and .i64 b 63 = d := ⟨_, rfl⟩
  have hd2 : 0 ≤ d ∧ d < 64 := by
    have hm := and_mask b 6 (by decide)
    rw [show (2 : Int) ^ 6 - 1 = 63 from rfl, show (2 : Int) ^ 6 = 64 from rfl, hd] at hm
    omega
  obtain ⟨r, hr⟩ : ∃ r : Int, (IntKind.u64.wrap a).tmod 11 = r := ⟨_, rfl⟩
  have hr2 : 0 ≤ r ∧ r < 11 := by
    have h0 : 0 ≤ IntKind.u64.wrap a := by unfold IntKind.wrap; simp [IntKind.signed, IntKind.bits]; omega
    rw [← hr, Int.tmod_eq_emod_of_nonneg h0]; omega
  go_enter Try.func6, Try.ntmps6
  go_upto_block 0 with (first
    | (go_at_call 15; refine HAw.out.mono ?_; rintro e w1 ⟨rfl, hb1⟩)
    | (go_at_call 9; refine (build_t0 w1).mono ?_; rintro e w2 ⟨v, rfl, hS, hb2⟩; replace hb2 := W2.of hb1 hb2; clear hS))
  have HW := Aside0.mk hb2
  clear hb1
  obtain ⟨s, hs⟩ : ∃ s, w1.heap.size = s := ⟨_, rfl⟩
  rw [hs] at HW hb2
  go_cut [] (fun wc => ∃ t : S41, Aside0 (Box wc (w1.heap.size + 1) t) ∧ Aside0 (mayB t = false) ∧ Aside0 (t.f2.size ≤ 1) ∧ Aside0 (Below w.heap.size w wc))
  case first =>
    have g0 := (blk_cell hb2.b1 0).trans rfl
    have g1 := (blk_cell hb2.b1 1).trans rfl
    have g2 := (blk_cell hb2.b1 2).trans rfl
    have g3 := (blk_cell hb2.b1 3).trans rfl
    have g4 := (blk_cell hb2.b1 4).trans rfl
    have g5 := (blk_cell hb2.b0 0).trans rfl
    have g6 := (blk_cell hb2.b0 2).trans rfl
    have f0 := blk_frozen hb2.b1 0
    have f1 := blk_frozen hb2.b1 1
    have f2 := blk_frozen hb2.b1 2
    have f3 := blk_frozen hb2.b1 3
    have f4 := blk_frozen hb2.b1 4
    have f5 := blk_frozen hb2.b0 0
    have f6 := blk_frozen hb2.b0 2
    clear hb2
    have hne : s ≠ s + 1 := by omega
    have HL := Aside0.mk HW.out.le
    rw [← hs] at g0 g1 g2 g3 g4 g5 g6 f0 f1 f2 f3 f4 f5 f6
    have HS := Aside0.mk hs
    clear hs
    have hne2 : s + 1 ≠ s := by omega
    have hle1 : w.heap.size ≤ s + 1 := by have := HL.out; omega
    obtain hr3 | hr3 : r = 0 ∨ 0 < r := by omega
    · subst hr3
      clear hr2
      go_wp2
      clear hr
      go_meet
      rw [HS.out]
      exact ⟨⟨3 + (1 + d), ⟨#[112]⟩, ⟨#[]⟩, _, false⟩, ⟨Box.two (blk_far HW.out.b0 hne _) ((set_block HW.out.b1 _).trans rfl)⟩, ⟨by unfold mayB; rw [if_neg (by simp; omega), if_neg (by simp; omega), if_neg (by simp; omega)]⟩, ⟨(by decide : (ByteArray.size ⟨#[]⟩) ≤ 1)⟩, ⟨HW.out.bel.setCell hle1 _⟩⟩
    obtain hr3 | hr3 : r = 1 ∨ 1 < r := by omega
    · subst hr3
      clear hr2
      go_wp2
      clear hr
      go_meet
      rw [HS.out]
      exact ⟨⟨-(1 + d), ⟨#[112]⟩, ⟨#[]⟩, _, false⟩, ⟨Box.two (blk_far HW.out.b0 hne _) ((set_block HW.out.b1 _).trans rfl)⟩, ⟨by unfold mayB; rw [if_neg (by simp; omega), if_neg (by simp; omega), if_neg (by simp; omega)]⟩, ⟨(by decide : (ByteArray.size ⟨#[]⟩) ≤ 1)⟩, ⟨HW.out.bel.setCell hle1 _⟩⟩
    obtain hr3 | hr3 : r = 2 ∨ 2 < r := by omega
    · subst hr3
      clear hr2
      go_wp2
      clear hr
      go_meet
      rw [HS.out]
      exact ⟨⟨1, ⟨#[]⟩, ⟨#[]⟩, _, false⟩, ⟨Box.two (blk_far HW.out.b0 hne _) ((set_block HW.out.b1 _).trans rfl)⟩, ⟨by decide +kernel⟩, ⟨(by decide : (ByteArray.size ⟨#[]⟩) ≤ 1)⟩, ⟨HW.out.bel.setCell hle1 _⟩⟩
    obtain hr3 | hr3 : r = 3 ∨ 3 < r := by omega
    · subst hr3
      clear hr2
      go_wp2
      clear hr
      go_meet
      rw [HS.out]
      exact ⟨⟨1, ⟨#[112]⟩, ⟨#[120]⟩, _, false⟩, ⟨Box.two (blk_far HW.out.b0 hne _) ((set_block HW.out.b1 _).trans rfl)⟩, ⟨by decide +kernel⟩, ⟨(by decide : (ByteArray.size ⟨#[120]⟩) ≤ 1)⟩, ⟨HW.out.bel.setCell hle1 _⟩⟩
    obtain hr3 | hr3 : r = 4 ∨ 4 < r := by omega
    · subst hr3
      clear hr2
      go_wp2
      clear hr
      go_meet
      rw [HS.out]
      exact ⟨⟨1, ⟨#[112]⟩, ⟨#[]⟩, _, false⟩, ⟨Box.two ((set_block HW.out.b0 _).trans rfl) (blk_far HW.out.b1 hne2 _)⟩, ⟨by decide +kernel⟩, ⟨(by decide : (ByteArray.size ⟨#[]⟩) ≤ 1)⟩, ⟨HW.out.bel.setCell HL.out _⟩⟩
    obtain hr3 | hr3 : r = 5 ∨ 5 < r := by omega
    · subst hr3
      clear hr2
      go_wp2
      clear hr
      go_meet
      rw [HS.out]
      exact ⟨⟨1, ⟨#[112]⟩, ⟨#[]⟩, _, false⟩, ⟨Box.two ((set_block HW.out.b0 _).trans rfl) (blk_far HW.out.b1 hne2 _)⟩, ⟨by decide +kernel⟩, ⟨(by decide : (ByteArray.size ⟨#[]⟩) ≤ 1)⟩, ⟨HW.out.bel.setCell HL.out _⟩⟩
    obtain hr3 | hr3 : r = 6 ∨ 6 < r := by omega
    · subst hr3
      clear hr2
      go_wp2
      clear hr
      go_meet
      rw [HS.out]
      exact ⟨⟨2, ⟨#[112]⟩, ⟨#[]⟩, _, false⟩, ⟨Box.two (blk_far HW.out.b0 hne _) ((set_block HW.out.b1 _).trans rfl)⟩, ⟨by decide +kernel⟩, ⟨(by decide : (ByteArray.size ⟨#[]⟩) ≤ 1)⟩, ⟨HW.out.bel.setCell hle1 _⟩⟩
    obtain hr3 | hr3 : r = 7 ∨ 7 < r := by omega
    · subst hr3
      clear hr2
      go_wp2
      clear hr
      go_meet
      rw [HS.out]
      exact ⟨⟨0, ⟨#[112]⟩, ⟨#[]⟩, _, false⟩, ⟨Box.two (blk_far HW.out.b0 hne _) ((set_block HW.out.b1 _).trans rfl)⟩, ⟨by decide +kernel⟩, ⟨(by decide : (ByteArray.size ⟨#[]⟩) ≤ 1)⟩, ⟨HW.out.bel.setCell hle1 _⟩⟩
    obtain hr3 | hr3 : r = 8 ∨ 8 < r := by omega
    · subst hr3
      clear hr2
      go_wp2
      clear hr
      go_meet
      rw [HS.out]
      exact ⟨⟨3, ⟨#[]⟩, ⟨#[]⟩, [], true⟩, ⟨Box.nil ((set_block (set_block (set_block (set_block (set_block HW.out.b1 _) _) _) _) _).trans rfl)⟩, ⟨by decide +kernel⟩, ⟨(by decide : (ByteArray.size ⟨#[]⟩) ≤ 1)⟩, ⟨((((HW.out.bel.setCell hle1 _).setCell hle1 _).setCell hle1 _).setCell hle1 _).setCell hle1 _⟩⟩
    obtain hr3 | hr3 : r = 9 ∨ 9 < r := by omega
    · subst hr3
      clear hr2
      go_wp2
      clear hr
      go_meet
      rw [HS.out]
      exact ⟨⟨2, ⟨#[112]⟩, ⟨#[]⟩, [], true⟩, ⟨Box.nil ((set_block (set_block (set_block (set_block (set_block HW.out.b1 _) _) _) _) _).trans rfl)⟩, ⟨by decide +kernel⟩, ⟨(by decide : (ByteArray.size ⟨#[]⟩) ≤ 1)⟩, ⟨((((HW.out.bel.setCell hle1 _).setCell hle1 _).setCell hle1 _).setCell hle1 _).setCell hle1 _⟩⟩
    · obtain rfl : r = 10 := by omega
      clear hr2 hr3
      obtain ⟨m, hm⟩ : ∃ m, (32 + (1 + d)).toNat = m := ⟨_, rfl⟩
      have hm2 : 33 ≤ m ∧ m ≤ 1000 := by omega
      have HM := Aside0.mk hm2
      have hmk := make_attrs w2 (32 + (1 + d)) (by omega) (by omega)
      rw [hm] at hmk
      clear hm hm2
      have b1' := blk_below HW.out.b1 (below_alloc (Below.refl _ _) (.cells (madeCells #[.string ⟨#[]⟩, .string ⟨#[]⟩] (m * 2)) 48))
      have c3 := (blk_cell b1' 3).trans rfl
      have z3 := blk_frozen b1' 3
      rw [← HS.out] at c3 z3
      clear b1'
      go_wp2
      clear hr
      go_meet
      rw [HS.out]
      exact ⟨⟨1, ⟨#[112]⟩, ⟨#[]⟩, List.replicate m ⟨⟨#[]⟩, ⟨#[]⟩⟩, false⟩, ⟨Box.made HW.out.b1 m HM.out.2⟩, ⟨by
        have : attrsOk (List.replicate m (⟨⟨#[]⟩, ⟨#[]⟩⟩ : S48)) = false := by
          unfold attrsOk; rw [List.length_replicate, decide_eq_false (by have := HM.out; omega)]; simp
        unfold mayB; simp [this]⟩, ⟨(by decide : (ByteArray.size ⟨#[]⟩) ≤ 1)⟩, ⟨(HW.out.bel.alloc HW.out.bel.size _).setCell hle1 _⟩⟩
  case rest =>
    clear HW hb2 hs hr hr2
    obtain ⟨t, HB, HM, HT, HBL⟩ := hcut
    obtain ⟨A, c, h1, h2, h3⟩ := HB.out
    have g0 := (blk_cell h1 0).trans rfl
    have g1 := (blk_cell h1 1).trans rfl
    have g2 := (blk_cell h1 2).trans rfl
    have g3 := (blk_cell h1 3).trans rfl
    have g4 := (blk_cell h1 4).trans rfl
    have HB1 := Aside0.mk (build_one wc t A c h2 h3 HT.out)
    have hbad := build_bad t HM.out
    rw [build_t0F]
    clear h1 h2 h3 hd hd2 HB HAw
    go_wp2_with (go_at_call 9; refine HB1.out.mono ?_; rintro e w3 ⟨v3, rfl, hS3, hb3⟩; rw [hbad] at hS3; rw [hbad])
    clear hbad HM HT g0 g1 g2 g3 g4 HB1
    obtain ⟨A3, c3, e3⟩ := Kd.S_slice hS3
    subst e3
    have HB := Aside0.mk ((HBL.out.alloc HBL.out.size _).trans (hb3.mono (by rw [World.size_alloc]; have := HBL.out.size; omega)))
    clear hS3 hb3 HBL
    go_loopg [11, 12] 4095 (fun g v i wr => ∃ k : Nat, k ≤ 4095 ∧ Aside0 (g = 4095 - k) ∧ i = .int .i64 k ∧ Aside0 (Kd.S k41 41 wr w.heap.size (fun _ => True) v (List.replicate k br)) ∧ Aside0 (Below w.heap.size w wr))
    case atStart => exact ⟨0, Nat.zero_le _, ⟨rfl⟩, rfl, ⟨Kd.S_nil _ _ _ _ _⟩, HB⟩
    case round =>
      clear HB
      obtain ⟨k, hk, HGk, rfl, HS, HB⟩ := hrel
      by_cases hlt : k < 4095
      · have hz : (k : Int) < 4095 := by omega
        go_wp2_with (first
          | (go_at_call 16; refine (start_walk _ _).mono ?_; rintro e w4 ⟨rfl, hb4⟩; have HS4 := Aside0.mk (Kd.S_below HS.out hb4); have HB4 := Aside0.mk (HB.out.trans (hb4.mono HB.out.size)); clear hb4 HS HB)
          | (at_builtin; refine Kd.S_append k41 (w0 := w) w.heap.size rfl (.tmp 89) (.tmp 91) 22 41 (.agg #[.int .i64 0, .string ⟨#[]⟩, .string ⟨#[]⟩, .slice none 0 0, .bool false]) 72 rfl Try.underlying22 infoTok rfl (by decide) (by omega) _ (List.replicate k br) br [.int .i64 1, .string ⟨#[98, 114]⟩, .string ⟨#[]⟩, .slice none 0 0, .bool false] (fun _ => True) (fun _ => False) rfl rfl (k41_mkM _ _ _ br (Kd.R_nil _ _ _ _ _)) (fun _ h => h.elim) (fun _ _ => trivial) (Kd.S_mono HS4.out (fun _ _ => ⟨trivial, fun h => h⟩)) HB4.out HB4.out.size (by rw [List.length_replicate]; omega) ?_; intro v9 w9 hS9 hb9 hg9 hat9; rw [brs_add] at hS9; clear hg9 hat9 HS4 HB4; have HS5 := Aside0.mk hS9; have HB5 := Aside0.mk hb9; clear hS9 hb9))
        go_roundg (4095 - (k + 1))
        case rel => exact ⟨k + 1, by omega, ⟨rfl⟩, by go_num, HS5, HB5⟩
        case measure => have := HGk.out; omega
      · obtain rfl : k = 4095 := by omega
        obtain ⟨ns, hns, hlen⟩ := build_brs
        have HNS := Aside0.mk hns
        have HLN := Aside0.mk hlen
        obtain ⟨A4, c4, e4⟩ := Kd.S_slice HS.out
        rw [List.length_replicate] at e4
        subst e4
        have HBM := Aside0.mk (many_calls 4095 A4 c4 _ _ _ HS.out)
        clear hns hlen hlt hk
        go_wp2_with (first
          | (go_at_call 9; refine HBM.out.mono ?_; rintro e w6 ⟨v6, rfl, hS6, hb6⟩; rw [HNS.out] at hS6; rw [HNS.out]; obtain ⟨A6, c6, e6⟩ := Kd.S_slice hS6; rw [HLN.out] at e6; subst e6; have n0 := Aside0.mk (Kd.S_below HS.out hb6); have n1 := Aside0.mk (HB.out.trans (hb6.mono HB.out.size)); clear HS HB hb6 hS6 HBM; have HS := n0; have HB := n1; clear n0 n1)
          | (go_at_call 16; refine (start_walk _ _).mono ?_; rintro e w4 ⟨rfl, hb4⟩; have HS4 := Aside0.mk (Kd.S_below HS.out hb4); have HB4 := Aside0.mk (HB.out.trans (hb4.mono HB.out.size)); clear hb4 HS HB)
          | (at_builtin; refine Kd.S_append k41 (w0 := w) w.heap.size rfl (.tmp 98) (.tmp 100) 22 41 (.agg #[.int .i64 0, .string ⟨#[]⟩, .string ⟨#[]⟩, .slice none 0 0, .bool false]) 72 rfl Try.underlying22 infoTok rfl (by decide) (by omega) _ (List.replicate 4095 br) br [.int .i64 1, .string ⟨#[98, 114]⟩, .string ⟨#[]⟩, .slice none 0 0, .bool false] (fun _ => True) (fun _ => False) rfl rfl (k41_mkM _ _ _ br (Kd.R_nil _ _ _ _ _)) (fun _ h => h.elim) (fun _ _ => trivial) (Kd.S_mono HS4.out (fun _ _ => ⟨trivial, fun h => h⟩)) HB4.out HB4.out.size (by rw [List.length_replicate]; omega) ?_; intro v9 w9 hS9 hb9 hg9 hat9; rw [brs_add] at hS9; clear hg9 hat9 HS4 HB4; obtain ⟨A7, c7, e7⟩ := Kd.S_slice hS9; rw [List.length_replicate] at e7; subst e7; have HBM := Aside0.mk (many_calls 4096 A7 c7 _ _ _ hS9); have HB5 := Aside0.mk hb9; clear hS9 hb9)
          | (go_at_call 9; refine HBM.out.mono ?_; rintro e w8 ⟨v8, rfl, hS8, hb8⟩; rw [build_full] at hS8; rw [build_full]; obtain ⟨A8, c8, e8⟩ := Kd.S_slice hS8; subst e8; have HB := Aside0.mk (HB5.out.trans (hb8.mono HB5.out.size)); clear hS8 hb8 HBM HB5)
          | (go_at_call 12; refine (stolelaw0_Num.calls _ _ _ rfl).mono ?_; rintro e w10 ⟨rfl, hd10⟩; have n0 := Aside0.mk (HB.out.trans ((hd10.below).mono HB.out.size)); clear HB hd10; have HB := n0; clear n0))
        go_ret
        exact ⟨rfl, HB.out⟩
theorem forms_row (a b : Int) (w : World) (_ : (Lit.int .i64 a).wf = true) (_ : (Lit.int .i64 b).wf = true) : Calls Try.prog 6 #[.int .i64 a, .int .i64 b] w fun e w' => e = .returned (.bool true) ∧ Below w.heap.size w w' := forms_calls a b w
end Go.Proofs.Ytkhgnaakcaghjaa.Tr
