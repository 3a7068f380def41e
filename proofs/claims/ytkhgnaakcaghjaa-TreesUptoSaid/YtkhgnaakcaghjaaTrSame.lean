/- stolelaw0.SameAttrs, SameNodes, SameTokens: alike or not. -/
import Derived.Test.YtkhgnaakcaghjaaTrRBuild
namespace Go.Proofs.Ytkhgnaakcaghjaa.Tr
open Go.RowKit Go.Proofs.Ytkhgnaakcaghjaa.XA Go.Proofs.Ytkhgnaakcaghjaa.Base Go.Proofs.YtkhgnaakcaghjaaW.PrintWords Go.Proofs.YtkhgnaakcaghjaaW.PrintLast Go.Proofs.YtkhgnaakcaghjaaW.PrintMore
attribute [local go_sem ↓] Go.wp_at_zero Go.wp_at_succ
set_option linter.unusedVariables false
set_option linter.unusedSimpArgs false

def allEq {α : Type} (q : α → α → Bool) : List α → List α → Bool
  | [], [] => true
  | x :: a, y :: b => q x y && allEq q a b
  | _, _ => false
theorem allEq_len {α : Type} {q : α → α → Bool} : ∀ {a b : List α}, a.length ≠ b.length → allEq q a b = false
  | [], [], h => absurd rfl h
  | [], _ :: _, _ => rfl
  | _ :: _, [], _ => rfl
  | x :: a, y :: b, h => by rw [allEq, allEq_len (fun e => h (by simp [e]))]; simp
theorem allEq_eq {α : Type} {q : α → α → Bool} (hq : ∀ x y, q x y = true ↔ x = y) : ∀ {a b : List α}, allEq q a b = true ↔ a = b
  | [], [] => by simp [allEq]
  | [], _ :: _ => by simp [allEq]
  | _ :: _, [] => by simp [allEq]
  | x :: a, y :: b => by rw [allEq, Bool.and_eq_true, hq, allEq_eq hq]; simp
theorem allEq_at {α : Type} (q : α → α → Bool) (a b : List α) (k : Nat) (h1 : k < a.length) (h2 : k < b.length) : allEq q (a.drop k) (b.drop k) = (q a[k] b[k] && allEq q (a.drop (k + 1)) (b.drop (k + 1))) := by
  rw [List.drop_eq_getElem_cons h1, List.drop_eq_getElem_cons h2, allEq]
theorem bytes_eq {a b : ByteArray} : a.toList = b.toList ↔ a = b := by
  constructor
  · intro h
    rw [ByteArray.toList_eq, ByteArray.toList_eq] at h
    exact Base.ext_list h
  · rintro rfl; rfl
def attrEq (x y : S48) : Bool := (x.f0.toList == y.f0.toList) && (x.f1.toList == y.f1.toList)
theorem attrEq_iff (x y : S48) : attrEq x y = true ↔ x = y := by
  unfold attrEq
  rw [Bool.and_eq_true, beq_iff_eq, beq_iff_eq, bytes_eq, bytes_eq]
  rcases x with ⟨a, b⟩; rcases y with ⟨c, d⟩; simp
def sameA (a b : List S48) : Bool := allEq attrEq a b
theorem sameA_iff (a b : List S48) : sameA a b = true ↔ a = b := allEq_eq attrEq_iff
def nodeEq (x y : S38) : Bool := decide (x.f0 = y.f0) && (x.f1.toList == y.f1.toList) && (x.f2.toList == y.f2.toList) && decide (x.f4 = y.f4) && sameA x.f3 y.f3
def tokEq (x y : S41) : Bool := decide (x.f0 = y.f0) && (x.f1.toList == y.f1.toList) && (x.f2.toList == y.f2.toList) && (x.f4 == y.f4) && sameA x.f3 y.f3
theorem nodeEq_iff (x y : S38) : nodeEq x y = true ↔ x = y := by
  unfold nodeEq
  simp only [Bool.and_eq_true, beq_iff_eq, bytes_eq, decide_eq_true_eq, sameA_iff]
  rcases x with ⟨a, b, c, d, e⟩; rcases y with ⟨a', b', c', d', e'⟩; simp
  constructor
  · rintro ⟨⟨⟨⟨h1, h2⟩, h3⟩, h4⟩, h5⟩; exact ⟨h1, h2, h3, h5, h4⟩
  · rintro ⟨h1, h2, h3, h5, h4⟩; exact ⟨⟨⟨⟨h1, h2⟩, h3⟩, h4⟩, h5⟩
theorem tokEq_iff (x y : S41) : tokEq x y = true ↔ x = y := by
  unfold tokEq
  simp only [Bool.and_eq_true, beq_iff_eq, bytes_eq, decide_eq_true_eq, sameA_iff]
  rcases x with ⟨a, b, c, d, e⟩; rcases y with ⟨a', b', c', d', e'⟩; simp
  constructor
  · rintro ⟨⟨⟨⟨h1, h2⟩, h3⟩, h4⟩, h5⟩; exact ⟨h1, h2, h3, h5, h4⟩
  · rintro ⟨h1, h2, h3, h5, h4⟩; exact ⟨⟨⟨⟨h1, h2⟩, h3⟩, h4⟩, h5⟩
theorem sameA_ev (a b : List S48) (hl : a.length = b.length) (hm : a.length ≤ 4611686018427387904) : ∀ (d i : Nat), i + d = a.length → Ev (fun k => stolelaw0_SameAttrs.l0 k a b (i : Int)) (allEq attrEq (a.drop i) (b.drop i)) := by
  intro d
  induction d with
  | zero =>
    intro i hi
    refine Ev.step (f := fun k => _) (fun k => by rw [stolelaw0_SameAttrs.l0]) ?_
    refine Ev.neg (by omega) (Ev.cast (Ev.now true) ?_)
    rw [List.drop_eq_nil_of_le (by omega), List.drop_eq_nil_of_le (by omega)]; rfl
  | succ d ih =>
    intro i hi
    have h1 : i < a.length := by omega
    have h2 : i < b.length := by omega
    refine Ev.step (f := fun k => _) (fun k => by rw [stolelaw0_SameAttrs.l0]) ?_
    refine Ev.pos (by omega) (Ev.pos (by omega) (Ev.pos (by omega) ?_))
    rw [rdA a i h1, rdA b i h2, allEq_at _ a b i h1 h2]
    by_cases hq : attrEq a[i] b[i] = true
    · refine Ev.neg ?_ ?_
      · unfold attrEq at hq
        simp only [Bool.and_eq_true] at hq
        rw [hq.1, hq.2]; decide
      · rw [wrap_next (n := 4611686018427387904) (by omega) (by decide), hq, Bool.true_and]
        exact ih (i + 1) (by omega)
    · refine Ev.pos ?_ (Ev.cast (Ev.now false) (by rw [Bool.not_eq_true] at hq; rw [hq]; rfl))
      unfold attrEq at hq
      cases h : (a[i].f0.toList == b[i].f0.toList) <;> cases h' : (a[i].f1.toList == b[i].f1.toList) <;> simp_all
theorem sameA_calls (a b : List S48) (A B : Option Addr) (c d : Nat) (w : World) (ha : Kd.C k48 w A a.length a) (hca : a.length ≤ c) (hb : Kd.C k48 w B b.length b) (hcb : b.length ≤ d) (hm : a.length ≤ 4611686018427387904) :
    Calls Try.prog 26 #[.slice A a.length c, .slice B b.length d] w fun e w' => e = .returned (.bool (sameA a b)) ∧ Drawn0 w w' := by
  by_cases hl : a.length = b.length
  · obtain ⟨k, hk⟩ := (sameA_ev a b hl hm a.length 0 (by omega)).rounds
    refine stolelaw0_SameAttrs.calls k A c a B d b _ w ha hca hb hcb ?_
    unfold stolelaw0_SameAttrs.f
    rw [if_pos (by omega)]; exact hk
  · refine stolelaw0_SameAttrs.calls 0 A c a B d b _ w ha hca hb hcb ?_
    unfold stolelaw0_SameAttrs.f
    rw [if_neg (by omega)]
    unfold sameA; rw [allEq_len hl]
theorem node_at {w : World} {A : Option Addr} {ns : List S38} (h : Kd.C k38 w A ns.length ns) (k : Nat) (hk : k < ns.length) :
    ∃ ad A3 c3, A = some ad ∧ w.cell? (ad.add (k * 5)) = some (.int .i64 ns[k].f0) ∧ w.cell? ⟨(ad.add (k * 5)).block, (ad.add (k * 5)).off + 1, none⟩ = some (.string ns[k].f1) ∧ w.cell? ⟨(ad.add (k * 5)).block, (ad.add (k * 5)).off + 2, none⟩ = some (.string ns[k].f2) ∧ w.cell? ⟨(ad.add (k * 5)).block, (ad.add (k * 5)).off + 3, none⟩ = some (.slice A3 ns[k].f3.length c3) ∧ w.cell? ⟨(ad.add (k * 5)).block, (ad.add (k * 5)).off + 4, none⟩ = some (.int .i64 ns[k].f4) ∧ ns[k].f3.length ≤ c3 ∧ Kd.C k48 w A3 ns[k].f3.length ns[k].f3 := by
  obtain ⟨ad, A3, c3, e, g0, g1, g2, g3, g4, g5, g6⟩ := at_T38 h (k : Int) (by omega) (by omega)
  have hx : rd_T38 ns (k : Int) = ns[k] := by simp [rd_T38, List.getD_eq_getElem?_getD, List.getElem?_eq_getElem hk]
  rw [hx] at g0 g1 g2 g3 g4 g5 g6
  rw [Int.toNat_natCast] at g0 g1 g2 g3 g4
  exact ⟨ad, A3, c3, e, g0, g1, g2, g3, g4, g5, g6⟩

set_option maxHeartbeats 6400000 in
set_option maxRecDepth 100000 in
theorem sameN_calls (a b : List S38) (A B : Option Addr) (c d : Nat) (w : World) (ha : Kd.C k38 w A a.length a) (hb : Kd.C k38 w B b.length b) (hm : ∀ x ∈ a, x.f3.length ≤ 4611686018427387904) :
    Calls Try.prog 11 #[.slice A a.length c, .slice B b.length d] w fun e w' => e = .returned (.bool (allEq nodeEq a b)) ∧ Drawn0 w w' := by
  have hla := ha.2.1
  have HA := Aside0.mk ha
  have HB := Aside0.mk hb
  have HM := Aside0.mk hm
  have hu1 := Try.underlying38
  clear ha hb hm
  by_cases hl : a.length = b.length
  · have hlb : ((a.length : Int) == (b.length : Int)) = true := by simp [hl]
    have hlc : ((a.length : Int) != (b.length : Int)) = false := by simp [hl]
    have HLn := Aside0.mk hl
    have hlb2 : (a.length == b.length) = true := by simp [hl]
    clear hl
    go_enter Try.func11, Try.ntmps11
    go_wp2
    go_loopw [5] (fun i wr => ∃ k m : Nat, k ≤ a.length ∧ i = .int .i64 k ∧ Aside0 (allEq nodeEq a b = allEq nodeEq (a.drop k) (b.drop k)) ∧ wr = w.drewN m)
      (fun i _ => a.length - (RowKit.intOf i).toNat)
    case atStart => exact ⟨0, 0, Nat.zero_le _, rfl, ⟨rfl⟩, rfl⟩
    case round =>
      obtain ⟨k, m, hk, rfl, HE, rfl⟩ := hrel
      by_cases hlt : k < a.length
      · have hltb : k < b.length := by have := HLn.out; omega
        have hi1 : (k : Int) < (b.length : Int) := by omega
        obtain ⟨ad, A3, c3, e, g0, g1, g2, g3, g4, g5, g6⟩ := node_at HA.out k hlt
        cases e
        obtain ⟨bd, B3, d3, e, e0, e1, e2, e3, e4, e5, e6⟩ := node_at HB.out k hltb
        cases e
        have hst := allEq_at nodeEq a b k hlt hltb
        have hxm := HM.out a[k] (List.getElem_mem hlt)
        obtain ⟨x, hx⟩ : ∃ x, a[k] = x := ⟨_, rfl⟩
        obtain ⟨y, hy⟩ : ∃ y, b[k] = y := ⟨_, rfl⟩
        rw [hx] at g0 g1 g2 g3 g4 g5 g6 hst hxm
        rw [hy] at e0 e1 e2 e3 e4 e5 e6 hst
        have HSA := Aside0.mk (fun n => sameA_calls x.f3 y.f3 A3 B3 c3 d3 (w.drewN n) (Kd.C_drewN g6 n) g5 (Kd.C_drewN e6 n) e5 hxm)
        have HE2 := Aside0.mk (HE.out.trans hst)
        have HQ := Aside0.mk (show nodeEq x y = _ from rfl)
        unfold nodeEq at HQ
        clear hst hx hy hxm g5 g6 e5 e6 HE
        by_cases q0 : x.f0 = y.f0
        · have q0b : (x.f0 == y.f0) = true := by simpa using q0
          have q0c : (x.f0 != y.f0) = false := by simpa using q0
          cases q1 : (x.f1.toList == y.f1.toList)
          · skip
            have HF := Aside0.mk (show allEq nodeEq a b = false by rw [HE2.out]; unfold nodeEq; rw [q1]; simp)
            clear HE2 HQ HSA
            go_wp2
            go_quiet (fail)
            go_wp2
            go_ret
            exact ⟨by rw [HF.out]; rfl, by repeat (first | exact Drawn0.refl _ | apply Drawn0.step)⟩
          · cases q2 : (x.f2.toList == y.f2.toList)
            · skip
              have HF := Aside0.mk (show allEq nodeEq a b = false by rw [HE2.out]; unfold nodeEq; rw [q2]; simp)
              clear HE2 HQ HSA
              go_wp2
              go_quiet (fail)
              go_wp2
              go_ret
              exact ⟨by rw [HF.out]; rfl, by repeat (first | exact Drawn0.refl _ | apply Drawn0.step)⟩
            · by_cases q4 : x.f4 = y.f4
              · have q4b : (x.f4 == y.f4) = true := by simpa using q4
                have q4c : (x.f4 != y.f4) = false := by simpa using q4
                cases q3 : sameA x.f3 y.f3
                · have HF := Aside0.mk (show allEq nodeEq a b = false by rw [HE2.out]; unfold nodeEq; rw [q3]; simp)
                  rw [q3] at HSA
                  clear HE2 HQ q0
                  go_wp2
                  go_quiet ((go_at_call 26; exact quiet_drawn2 (HSA.out _)))
                  go_wp2
                  go_ret
                  exact ⟨by rw [HF.out]; rfl, by repeat (first | exact Drawn0.refl _ | apply Drawn0.step)⟩
                · have HF := Aside0.mk (show allEq nodeEq a b = allEq nodeEq (a.drop (k + 1)) (b.drop (k + 1)) by rw [HE2.out]; unfold nodeEq; rw [decide_eq_true q0, q1, q2, decide_eq_true q4, q3]; rfl)
                  rw [q3] at HSA
                  clear HE2 HQ q0
                  go_wp2
                  go_quiet ((go_at_call 26; exact quiet_drawn2 (HSA.out _)))
                  go_wp2
                  go_roundw
                  case rel => exact ⟨k + 1, _, by omega, by go_num, HF, rfl⟩
                  case measure => simp [RowKit.intOf]; omega
              · have q4b : (x.f4 == y.f4) = false := by simpa using q4
                have q4c : (x.f4 != y.f4) = true := by simpa using q4
                have HF := Aside0.mk (show allEq nodeEq a b = false by rw [HE2.out]; unfold nodeEq; rw [decide_eq_false q4]; simp)
                clear HE2 HQ HSA
                go_wp2
                go_quiet (fail)
                go_wp2
                go_ret
                exact ⟨by rw [HF.out]; rfl, by repeat (first | exact Drawn0.refl _ | apply Drawn0.step)⟩
        · have q0b : (x.f0 == y.f0) = false := by simpa using q0
          have q0c : (x.f0 != y.f0) = true := by simpa using q0
          have HF := Aside0.mk (show allEq nodeEq a b = false by rw [HE2.out]; unfold nodeEq; rw [decide_eq_false q0]; simp)
          clear HE2 HQ HSA
          go_wp2
          go_quiet (fail)
          go_wp2
          go_ret
          exact ⟨by rw [HF.out]; rfl, by repeat (first | exact Drawn0.refl _ | apply Drawn0.step)⟩
      · have HF := Aside0.mk (show allEq nodeEq a b = true by
          rw [HE.out, List.drop_eq_nil_of_le (by omega), List.drop_eq_nil_of_le (by have := HLn.out; omega)]; rfl)
        clear HE
        go_wp2
        go_ret
        exact ⟨by rw [HF.out]; rfl, ⟨⟨_, rfl⟩⟩⟩
  · have hlb : ((a.length : Int) == (b.length : Int)) = false := by simp; omega
    have hlc : ((a.length : Int) != (b.length : Int)) = true := by simp; omega
    have hlb2 : (a.length == b.length) = false := by simpa using hl
    have HF := Aside0.mk (allEq_len (q := nodeEq) hl)
    clear hl
    go_enter Try.func11, Try.ntmps11
    go_wp2
    go_ret
    exact ⟨by rw [HF.out]; rfl, Drawn0.refl _⟩

set_option maxHeartbeats 6400000 in
set_option maxRecDepth 100000 in
theorem sameT_calls (a b : List S41) (A B : Option Addr) (c d : Nat) (w : World) (ha : Kd.C k41 w A a.length a) (hb : Kd.C k41 w B b.length b) (hm : ∀ x ∈ a, x.f3.length ≤ 4611686018427387904) :
    Calls Try.prog 13 #[.slice A a.length c, .slice B b.length d] w fun e w' => e = .returned (.bool (allEq tokEq a b)) ∧ Drawn0 w w' := by
  have hla := ha.2.1
  have HA := Aside0.mk ha
  have HB := Aside0.mk hb
  have HM := Aside0.mk hm
  have hu1 := Try.underlying41
  clear ha hb hm
  by_cases hl : a.length = b.length
  · have hlb : ((a.length : Int) == (b.length : Int)) = true := by simp [hl]
    have hlc : ((a.length : Int) != (b.length : Int)) = false := by simp [hl]
    have HLn := Aside0.mk hl
    have hlb2 : (a.length == b.length) = true := by simp [hl]
    clear hl
    go_enter Try.func13, Try.ntmps13
    go_wp2
    go_loopw [5] (fun i wr => ∃ k m : Nat, k ≤ a.length ∧ i = .int .i64 k ∧ Aside0 (allEq tokEq a b = allEq tokEq (a.drop k) (b.drop k)) ∧ wr = w.drewN m)
      (fun i _ => a.length - (RowKit.intOf i).toNat)
    case atStart => exact ⟨0, 0, Nat.zero_le _, rfl, ⟨rfl⟩, rfl⟩
    case round =>
      obtain ⟨k, m, hk, rfl, HE, rfl⟩ := hrel
      by_cases hlt : k < a.length
      · have hltb : k < b.length := by have := HLn.out; omega
        have hi1 : (k : Int) < (b.length : Int) := by omega
        obtain ⟨ad, A3, c3, e, g0, g1, g2, g3, g4, g5, g6, _⟩ := tok_at HA.out k hlt
        cases e
        obtain ⟨bd, B3, d3, e, e0, e1, e2, e3, e4, e5, e6, _⟩ := tok_at HB.out k hltb
        cases e
        have hst := allEq_at tokEq a b k hlt hltb
        have hxm := HM.out a[k] (List.getElem_mem hlt)
        obtain ⟨x, hx⟩ : ∃ x, a[k] = x := ⟨_, rfl⟩
        obtain ⟨y, hy⟩ : ∃ y, b[k] = y := ⟨_, rfl⟩
        rw [hx] at g0 g1 g2 g3 g4 g5 g6 hst hxm
        rw [hy] at e0 e1 e2 e3 e4 e5 e6 hst
        have HSA := Aside0.mk (fun n => sameA_calls x.f3 y.f3 A3 B3 c3 d3 (w.drewN n) (Kd.C_drewN g6 n) g5 (Kd.C_drewN e6 n) e5 hxm)
        have HE2 := Aside0.mk (HE.out.trans hst)
        have HQ := Aside0.mk (show tokEq x y = _ from rfl)
        unfold tokEq at HQ
        clear hst hx hy hxm g5 g6 e5 e6 HE
        by_cases q0 : x.f0 = y.f0
        · have q0b : (x.f0 == y.f0) = true := by simpa using q0
          have q0c : (x.f0 != y.f0) = false := by simpa using q0
          cases q1 : (x.f1.toList == y.f1.toList)
          · skip
            have HF := Aside0.mk (show allEq tokEq a b = false by rw [HE2.out]; unfold tokEq; rw [q1]; simp)
            clear HE2 HQ HSA
            go_wp2
            go_quiet (fail)
            go_wp2
            go_ret
            exact ⟨by rw [HF.out]; rfl, by repeat (first | exact Drawn0.refl _ | apply Drawn0.step)⟩
          · cases q2 : (x.f2.toList == y.f2.toList)
            · skip
              have HF := Aside0.mk (show allEq tokEq a b = false by rw [HE2.out]; unfold tokEq; rw [q2]; simp)
              clear HE2 HQ HSA
              go_wp2
              go_quiet (fail)
              go_wp2
              go_ret
              exact ⟨by rw [HF.out]; rfl, by repeat (first | exact Drawn0.refl _ | apply Drawn0.step)⟩
            · cases q4 : (x.f4 == y.f4)
              · have q4c : (x.f4 != y.f4) = true := by rw [bne, q4]; rfl
                have HF := Aside0.mk (show allEq tokEq a b = false by rw [HE2.out]; unfold tokEq; rw [q4]; simp)
                clear HE2 HQ HSA
                go_wp2
                go_quiet (fail)
                go_wp2
                go_ret
                exact ⟨by rw [HF.out]; rfl, by repeat (first | exact Drawn0.refl _ | apply Drawn0.step)⟩
              · have q4c : (x.f4 != y.f4) = false := by rw [bne, q4]; rfl
                cases q3 : sameA x.f3 y.f3
                · have HF := Aside0.mk (show allEq tokEq a b = false by rw [HE2.out]; unfold tokEq; rw [q3]; simp)
                  rw [q3] at HSA
                  clear HE2 HQ q0
                  go_wp2
                  go_quiet ((go_at_call 26; exact quiet_drawn2 (HSA.out _)))
                  go_wp2
                  go_ret
                  exact ⟨by rw [HF.out]; rfl, by repeat (first | exact Drawn0.refl _ | apply Drawn0.step)⟩
                · have HF := Aside0.mk (show allEq tokEq a b = allEq tokEq (a.drop (k + 1)) (b.drop (k + 1)) by rw [HE2.out]; unfold tokEq; rw [decide_eq_true q0, q1, q2, q4, q3]; rfl)
                  rw [q3] at HSA
                  clear HE2 HQ q0
                  go_wp2
                  go_quiet ((go_at_call 26; exact quiet_drawn2 (HSA.out _)))
                  go_wp2
                  go_roundw
                  case rel => exact ⟨k + 1, _, by omega, by go_num, HF, rfl⟩
                  case measure => simp [RowKit.intOf]; omega
        · have q0b : (x.f0 == y.f0) = false := by simpa using q0
          have q0c : (x.f0 != y.f0) = true := by simpa using q0
          have HF := Aside0.mk (show allEq tokEq a b = false by rw [HE2.out]; unfold tokEq; rw [decide_eq_false q0]; simp)
          clear HE2 HQ HSA
          go_wp2
          go_quiet (fail)
          go_wp2
          go_ret
          exact ⟨by rw [HF.out]; rfl, by repeat (first | exact Drawn0.refl _ | apply Drawn0.step)⟩
      · have HF := Aside0.mk (show allEq tokEq a b = true by
          rw [HE.out, List.drop_eq_nil_of_le (by omega), List.drop_eq_nil_of_le (by have := HLn.out; omega)]; rfl)
        clear HE
        go_wp2
        go_ret
        exact ⟨by rw [HF.out]; rfl, ⟨⟨_, rfl⟩⟩⟩
  · have hlb : ((a.length : Int) == (b.length : Int)) = false := by simp; omega
    have hlc : ((a.length : Int) != (b.length : Int)) = true := by simp; omega
    have hlb2 : (a.length == b.length) = false := by simpa using hl
    have HF := Aside0.mk (allEq_len (q := tokEq) hl)
    clear hl
    go_enter Try.func13, Try.ntmps13
    go_wp2
    go_ret
    exact ⟨by rw [HF.out]; rfl, Drawn0.refl _⟩

end Go.Proofs.Ytkhgnaakcaghjaa.Tr
