/- tree.attrs, tree.may: walked (the closure, slices.ContainsFunc at it). -/
import Derived.Test.YtkhgnaakcaghjaaXA2
import Derived.Test.YtkhgnaakcaghjaaXA3
import Derived.Test.YtkhgnaakcaghjaaXA4
import Derived.Outline
namespace Go.Proofs.Ytkhgnaakcaghjaa.Tr
open Go.RowKit Go.Proofs.Ytkhgnaakcaghjaa.XA Go.Proofs.YtkhgnaakcaghjaaW.PrintWords Go.Proofs.YtkhgnaakcaghjaaW.PrintLast Go.Proofs.YtkhgnaakcaghjaaW.PrintMore

/-- Is there an attribute of that name? -/
def has (nm : ByteArray) (xs : List S48) : Bool := xs.any fun x => x.f0.toList == nm.toList
def NatInt (xs : List S48) (nm : ByteArray) (w : World) (e : Ending) (w' : World) : Prop := ∃ r : Int, e = .returned (.int .i64 r) ∧ decide (0 ≤ r) = has nm xs ∧ Below w.heap.size w w'
theorem cell_alloc {w : World} {a : Addr} {v : Value} (h : w.cell? a = some v) (o : Obj) : (w.alloc o).cell? a = some v := pw_cell_below ((Below.refl _ _).alloc (Nat.le_refl _) o) h
theorem has_snoc (nm : ByteArray) (xs : List S48) (k : Nat) (h : k < xs.length) : has nm (xs.take (k + 1)) = (has nm (xs.take k) || (xs[k].f0.toList == nm.toList)) := by
  unfold has; rw [List.take_succ_eq_append_getElem h, List.any_append]; simp

set_option maxHeartbeats 800000 in
theorem same_calls (x : S48) (nm : ByteArray) (a : Addr) (w : World) (hc : w.cell? a = some (.string nm)) :
    Calls Try.prog 34 #[.agg #[.string x.f0, .string x.f1], .pointer (some a)] w fun e w' => e = .returned (.bool (x.f0.toList == nm.toList)) ∧ Below w.heap.size w w' := by
  have hB : Below w.heap.size w (w.alloc (.cells #[.string x.f0, .string x.f1] 48)) := (Below.refl _ _).alloc (Nat.le_refl _) _
  have HB := Aside0.mk hB
  have hc' := cell_alloc hc (.cells #[.string x.f0, .string x.f1] 48)
  clear hB hc
  go_enter Try.func34, Try.ntmps34
  go_wp2
  go_ret
  exact ⟨rfl, HB.out⟩

set_option maxHeartbeats 1600000 in
theorem index_calls (xs : List S48) (A : Option Addr) (c : Nat) (nm : ByteArray) (a : Addr) (w : World) (hx : Kd.C k48 w A xs.length xs) (hc : w.cell? a = some (.string nm)) :
    Calls Try.prog 36 #[.slice A xs.length c, .func (.func 34) #[] #[.pointer (some a)]] w (NatInt xs nm w) := by
  have HX := Aside0.mk hx
  have HC := Aside0.mk hc
  have HL := Aside0.mk hx.2.1
  have hu48 := Try.underlying48
  clear hx hc
  go_enter Try.func36, Try.ntmps36
  go_wp2
  go_loopw [8] (fun i wr => ∃ k : Nat, k ≤ xs.length ∧ i = .int .i64 k ∧ Aside0 (has nm (xs.take k) = false) ∧ Aside0 (Below w.heap.size w wr))
    (fun i _ => xs.length - (RowKit.intOf i).toNat)
  case atStart => exact ⟨0, Nat.zero_le _, rfl, ⟨rfl⟩, ⟨Below.refl _ _⟩⟩
  case round =>
    obtain ⟨k, hk, rfl, HN, HB⟩ := hrel
    have hm := HL.out
    by_cases hlt : k < xs.length
    · obtain ⟨ad, e, h0, h1⟩ := at_T48 HX.out (k : Int) (by omega) (by omega)
      cases e
      replace h0 := pw_cell_below HB.out h0
      replace h1 := pw_cell_below HB.out h1
      simp only [Int.toNat_natCast] at h0 h1
      obtain ⟨x, hxx⟩ : ∃ x, rd_T48 xs (k : Int) = x := ⟨_, rfl⟩
      rw [hxx] at h0 h1
      have HX1 := Aside0.mk (show xs[k] = x by rw [← hxx]; simp [rd_T48, List.getD_eq_getElem?_getD, List.getElem?_eq_getElem hlt])
      have HC1 := Aside0.mk (pw_cell_below HB.out HC.out)
      clear hxx
      by_cases hq : (x.f0.toList == nm.toList) = true
      · have HS := Aside0.mk (same_calls x nm a wr HC1.out)
        rw [hq] at HS
        have HQ := Aside0.mk hq
        clear hq
        go_wp2_with (go_at_call 34; refine HS.out.mono ?_; rintro e w2 ⟨rfl, hb2⟩)
        go_ret
        refine ⟨(k : Int), rfl, ?_, HB.out.trans (hb2.mono HB.out.size)⟩
        have hh : has nm xs = true := by
          unfold has
          rw [List.any_eq_true]
          exact ⟨xs[k], List.getElem_mem _, by rw [HX1.out]; exact HQ.out⟩
        rw [hh]; simp
      · have hq : (x.f0.toList == nm.toList) = false := by simpa using hq
        have HS := Aside0.mk (same_calls x nm a wr HC1.out)
        rw [hq] at HS
        have HQ := Aside0.mk hq
        clear hq
        go_wp2_with (go_at_call 34; refine HS.out.mono ?_; rintro e w2 ⟨rfl, hb2⟩)
        have HB2 := Aside0.mk (HB.out.trans (hb2.mono HB.out.size))
        have HN2 := Aside0.mk (show has nm (xs.take (k + 1)) = false by rw [has_snoc nm xs k hlt, HN.out, HX1.out, HQ.out]; rfl)
        clear hb2
        go_roundw
        case rel => exact ⟨k + 1, by omega, by go_num, HN2, HB2⟩
        case measure => simp [RowKit.intOf]; omega
    · have HN2 := Aside0.mk (show has nm xs = false by have := HN.out; rwa [List.take_of_length_le (by omega)] at this)
      go_wp2
      go_ret
      exact ⟨-1, rfl, by rw [HN2.out]; rfl, HB.out⟩

theorem contains_calls (xs : List S48) (A : Option Addr) (c : Nat) (nm : ByteArray) (a : Addr) (w : World) (hx : Kd.C k48 w A xs.length xs) (hc : w.cell? a = some (.string nm)) :
    Calls Try.prog 35 #[.slice A xs.length c, .func (.func 34) #[] #[.pointer (some a)]] w fun e w' => e = .returned (.bool (has nm xs)) ∧ Below w.heap.size w w' := by
  have HI := Aside0.mk (index_calls xs A c nm a w hx hc)
  clear hx hc
  go_enter Try.func35, Try.ntmps35
  go_wp2_with (go_at_call 36; refine HI.out.mono ?_; rintro e w2 ⟨r, rfl, hr, hb2⟩; have HR := Aside0.mk hr; clear hr)
  go_ret
  refine ⟨?_, hb2⟩
  rw [← HR.out]; rfl

/-- 's[:j]'. -/
theorem take_run {P : Program} (t e : TypeId) (kl : IntKind) {i : TypeInfo} (ht : P.underlying t = some (.slice e)) (hi : P.info? e = some i) (A : Option Addr) (n c k : Nat) (hm : k ≤ c) :
    ∀ W : World, (Instr.slice t (.slice A n c) none (some (.int kl (k : Int))) none).run P W = .ok (.slice A k c) W := by
  intro W
  have hel : P.elem t = e := by simp [Program.elem, ht]
  have hu : P.underlying t = some (.slice (P.elem t)) := by rw [hel]; exact ht
  have ha : (A.map fun x => x.add 0) = A := by cases A <;> simp [Addr.add]
  rw [run_slice_h W t A n c hu kl (k : Int) (by omega) (by omega), hel]
  simp [sizeOf, typeInfo, hi, sliced, Result.andThen, ha]

/-- No name twice, none empty, among the first n. -/
def okA : List S48 → Nat → Bool
  | _, 0 => true
  | xs, n + 1 => okA xs n && (match xs[n]? with
    | some x => !(x.f0.toList == []) && !has x.f0 (xs.take n)
    | none => true)
def attrsOk (xs : List S48) : Bool := okA xs xs.length && decide (xs.length ≤ 32)
theorem okA_false (xs : List S48) (n : Nat) : ∀ m, n ≤ m → okA xs n = false → okA xs m = false := by
  intro m
  induction m with
  | zero => intro h h0; obtain rfl : n = 0 := by omega
            exact h0
  | succ m ih =>
    intro h h0
    rcases Nat.lt_or_ge n (m + 1) with h1 | h1
    · rw [okA, ih (by omega) h0]; rfl
    · obtain rfl : n = m + 1 := by omega
      exact h0

set_option maxHeartbeats 1600000 in
theorem attrs_calls (xs : List S48) (A : Option Addr) (c : Nat) (w : World) (hx : Kd.C k48 w A xs.length xs) (hc : xs.length ≤ c) :
    Calls Try.prog 28 #[.slice A xs.length c] w fun e w' => e = .returned (.bool (attrsOk xs)) ∧ Below w.heap.size w w' := by
  have HX := Aside0.mk hx
  have HCp := Aside0.mk hc
  have HL := Aside0.mk hx.2.1
  have hu48 := Try.underlying48
  have hmf : ∀ (fn : Fn) (first cap : Array Value) (w : World), (Instr.makeFunc fn first cap).run Try.prog w = .ok (.func fn first cap) w := fun _ _ _ _ => rfl
  clear hx hc
  go_enter Try.func28, Try.ntmps28
  go_wp2
  go_loopw [8] (fun i wr => ∃ k : Nat, k ≤ xs.length ∧ i = .int .i64 k ∧ Aside0 (okA xs k = true) ∧ Aside0 (Below w.heap.size w wr))
    (fun i _ => xs.length - (RowKit.intOf i).toNat)
  case atStart => exact ⟨0, Nat.zero_le _, rfl, ⟨rfl⟩, ⟨Below.refl _ _⟩⟩
  case round =>
    obtain ⟨k, hk, rfl, HN, HB⟩ := hrel
    have hm := HL.out
    by_cases hlt : k < xs.length
    · obtain ⟨ad, e, h0, h1⟩ := at_T48 HX.out (k : Int) (by omega) (by omega)
      cases e
      replace h0 := pw_cell_below HB.out h0
      replace h1 := pw_cell_below HB.out h1
      simp only [Int.toNat_natCast] at h0 h1
      obtain ⟨x, hxx⟩ : ∃ x, rd_T48 xs (k : Int) = x := ⟨_, rfl⟩
      rw [hxx] at h0 h1
      have HX1 := Aside0.mk (show xs[k]? = some x by rw [← hxx]; simp [rd_T48, List.getD_eq_getElem?_getD, List.getElem?_eq_getElem hlt])
      clear hxx
      by_cases hz : x.f0.toList = []
      · have hz1 : x.f0.toList.isEmpty = true := by rw [hz]; rfl
        have HZ := Aside0.mk hz
        clear hz
        go_wp2
        go_ret
        have hf : okA xs (k + 1) = false := by rw [okA, HX1.out]; simp [HZ.out]
        refine ⟨?_, HB.out.alloc HB.out.size _⟩
        unfold attrsOk
        rw [okA_false xs (k + 1) xs.length hlt hf]; rfl
      · have hz1 : x.f0.toList.isEmpty = false := by simpa using hz
        have HZ := Aside0.mk hz
        clear hz
        obtain ⟨i0, hi0, _⟩ := Option.map_eq_some_iff.1 info48
        have hsl := take_run (P := Try.prog) 36 48 .i64 Try.underlying36 hi0 (some ad) xs.length c k (by have := HCp.out; omega)
        have hl : (xs.take k).length = k := by rw [List.length_take]; omega
        have HK := Aside0.mk (contains_calls (xs.take k) (some ad) c x.f0 ⟨wr.heap.size, 0, none⟩ (wr.alloc (.cells #[.string x.f0, .string x.f1] 48)) (Kd.C_alloc (Kd.C_below (Kd.C_take HX.out hk) HB.out) _) (by rw [blk_cell (heap_alloc_new wr _)]; rfl))
        rw [hl] at HK
        have HA := Aside0.mk (HB.out.alloc HB.out.size (.cells #[.string x.f0, .string x.f1] 48))
        clear hl hi0 
        by_cases hq : has x.f0 (xs.take k) = true
        · rw [hq] at HK
          have HQ := Aside0.mk hq
          clear hq
          go_wp2_with (go_at_call 35; refine HK.out.mono ?_; rintro e w2 ⟨rfl, hb2⟩)
          go_wp2
          go_ret
          have hf : okA xs (k + 1) = false := by rw [okA, HX1.out]; simp [HQ.out]
          refine ⟨?_, HA.out.trans (hb2.mono HA.out.size)⟩
          unfold attrsOk
          rw [okA_false xs (k + 1) xs.length hlt hf]; rfl
        · have hq : has x.f0 (xs.take k) = false := by simpa using hq
          rw [hq] at HK
          have HQ := Aside0.mk hq
          clear hq
          go_wp2_with (go_at_call 35; refine HK.out.mono ?_; rintro e w2 ⟨rfl, hb2⟩)
          have HB2 := Aside0.mk (HA.out.trans (hb2.mono HA.out.size))
          have HN2 := Aside0.mk (show okA xs (k + 1) = true by rw [okA, HX1.out, HN.out]; simp [HQ.out, HZ.out])
          clear hb2
          go_wp2
          go_roundw
          case rel => exact ⟨k + 1, by omega, by go_num, HN2, HB2⟩
          case measure => simp [RowKit.intOf]; omega
    · have HN2 := Aside0.mk (show okA xs xs.length = true by have := HN.out; rwa [show k = xs.length by omega] at this)
      go_wp2
      go_ret
      refine ⟨?_, HB.out⟩
      unfold attrsOk
      rw [HN2.out]
      rw [Bool.true_and, show decide (xs.length ≤ 32) = decide ((xs.length : Int) ≤ 32) from decide_eq_decide.mpr (by omega)]
      first | rfl | (congr 2; rw [decide_eq_decide]; omega)
end Go.Proofs.Ytkhgnaakcaghjaa.Tr
