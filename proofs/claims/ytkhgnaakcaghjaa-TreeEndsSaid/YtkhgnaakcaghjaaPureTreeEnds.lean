/- TreeEnds: ends close the innermost of their name: the printed function's plain law. -/
import Derived.Test.YtkhgnaakcaghjaaXE2
import Derived.Test.YtkhgnaakcaghjaaTrFold
namespace Go.Proofs.Ytkhgnaakcaghjaa.Pure
open Go.RowKit Go.Proofs.Ytkhgnaakcaghjaa.XE Go.Proofs.Ytkhgnaakcaghjaa.XA Go.Proofs.Ytkhgnaakcaghjaa.Ext Go.Proofs.Ytkhgnaakcaghjaa.Tr Go.Proofs.Ytkhgnaakcaghjaa.Base Go.Proofs.YtkhgnaakcaghjaaW.PrintWords Go.Proofs.YtkhgnaakcaghjaaW.PrintLast
set_option linter.unusedVariables false
set_option linter.unusedSimpArgs false

theorem awakeE : XE.stolelaw7_awake.f = some true := by decide +kernel
def names5 : List ByteArray := [⟨#[97]⟩, ⟨#[98]⟩, ⟨#[99]⟩, ⟨#[98, 114]⟩, ⟨#[105, 109, 103]⟩]
def nmK (k : Int) : ByteArray := rdOf ByteArray.empty names5 k
theorem nmK_all : ∀ k : Fin 5, (kindOf (nmK (k.val : Int)) ≠ 1 ↔ k.val < 3) ∧ (nmK (k.val : Int)).toList ≠ [] := by decide +kernel
theorem nmK_kind (k : Int) (h0 : 0 ≤ k) (h1 : k < 5) : (kindOf (nmK k) ≠ 1 ↔ k < 3) ∧ (nmK k).toList ≠ [] := by
  obtain ⟨n, rfl⟩ := Int.eq_ofNat_of_zero_le h0
  have := nmK_all ⟨n, by omega⟩
  exact ⟨this.1.trans (by simp; omega), this.2⟩
theorem at_ev (ts : List S41) (hm : ts.length ≤ 1000) : ∀ d i n, i + d = ts.length → n < (starts (ts.drop i)).length → n < 1000 →
    ∃ p : Nat, Ev (fun k => XE.stolelaw7_at.l0 k ts ((n + 1 : Nat) : Int) (i : Int)) (p : Int) ∧ p < ts.length ∧ ts.getD p z41 = (starts (ts.drop i)).getD n z41 := by
  intro d
  induction d with
  | zero =>
    intro i n hi hn _
    rw [List.drop_eq_nil_of_le (by omega)] at hn
    simp [starts] at hn
  | succ d ih =>
    intro i n hi hn hn2
    have hlt : i < ts.length := by omega
    have hx : rd_T41 ts (i : Int) = ts[i] := by simp [rd_T41, List.getD_eq_getElem?_getD, List.getElem?_eq_getElem hlt]
    have hd : ts.drop i = ts[i] :: ts.drop (i + 1) := List.drop_eq_getElem_cons hlt
    by_cases hs : ts[i].f0 = 1
    · have hst : starts (ts.drop i) = ts[i] :: starts (ts.drop (i + 1)) := by rw [hd]; unfold starts; rw [List.filter_cons, if_pos (by simpa using hs)]
      rw [hst] at hn ⊢
      cases n with
      | zero =>
        refine ⟨i, ?_, hlt, by simp [List.getD_eq_getElem?_getD, List.getElem?_eq_getElem hlt]⟩
        refine Ev.step (f := fun k => _) (fun k => by rw [XE.stolelaw7_at.l0]) ?_
        refine Ev.pos (by omega) (Ev.pos (by omega) (Ev.pos (by rw [hx]; exact hs) (Ev.pos ?_ (Ev.now _))))
        unfold wrap64; omega
      | succ n =>
        obtain ⟨p, h1, h2, h3⟩ := ih (i + 1) n (by omega) (by simpa using hn) (by omega)
        refine ⟨p, ?_, h2, by rw [h3]; simp⟩
        refine Ev.step (f := fun k => _) (fun k => by rw [XE.stolelaw7_at.l0]) ?_
        have hw : wrap64 (((n + 1 + 1 : Nat) : Int) - 1) = ((n + 1 : Nat) : Int) := by unfold wrap64; omega
        refine Ev.pos (by omega) (Ev.pos (by omega) (Ev.pos (by rw [hx]; exact hs) (Ev.neg (by rw [hw]; omega) ?_)))
        rw [hw, wrap_next (n := 1001) (by omega) (by decide)]
        exact h1
    · have hst : starts (ts.drop i) = starts (ts.drop (i + 1)) := by rw [hd]; unfold starts; rw [List.filter_cons, if_neg (by simpa using hs)]
      rw [hst] at hn ⊢
      obtain ⟨p, h1, h2, h3⟩ := ih (i + 1) n (by omega) hn hn2
      refine ⟨p, ?_, h2, h3⟩
      refine Ev.step (f := fun k => _) (fun k => by rw [XE.stolelaw7_at.l0]) ?_
      refine Ev.pos (by omega) (Ev.pos (by omega) (Ev.neg (by rw [hx]; exact hs) (Ev.neg (by omega) ?_)))
      rw [wrap_next (n := 1001) (by omega) (by decide)]
      exact h1

structure Inv (ts : List S41) (op want : List Int) (ns : List S38) (m : Nat) : Prop where
  st : stT ts = (ns, 0 :: op)
  ml : ts.length ≤ m
  wl : want.length ≤ m
  nl : ns.length = want.length + 1
  sl : (starts ts).length = want.length
  par : ∀ j, j < want.length → (ns.getD (j + 1) z38).f4 = want.getD j 0
  nam : ∀ j, j < want.length → (ns.getD (j + 1) z38).f1 = ((starts ts).getD j z41).f1
  opb : ∀ x ∈ op, 1 ≤ x ∧ x ≤ (want.length : Int)
  opl : op.length ≤ 32
  may : ts.all mayB = true
  txt : toks ts = 0
theorem inv0 : Inv [] [] [] [root] 0 := ⟨rfl, by simp, by simp, rfl, rfl, by simp, by simp, by simp, by simp, rfl, rfl⟩
theorem lastOf_cons (op : List Int) : lastOf (0 :: op) = op.getLast?.getD 0 := by
  unfold lastOf
  cases op with
  | nil => rfl
  | cons x l => rfl
theorem getD_snoc1 {α : Type} (l : List α) (x z : α) (j : Nat) (h : j < l.length) : (l ++ [x]).getD j z = l.getD j z := by
  rw [List.getD_eq_getElem?_getD, List.getD_eq_getElem?_getD, List.getElem?_append_left h]
theorem getD_snoc2 {α : Type} (l : List α) (x z : α) : (l ++ [x]).getD l.length z = x := by
  rw [List.getD_eq_getElem?_getD, List.getElem?_append_right (Nat.le_refl _)]; simp
def tk (kd : Int) (nm : ByteArray) : S41 := ⟨kd, nm, ⟨#[]⟩, [], false⟩
theorem emp0 : (⟨#[]⟩ : ByteArray).toList.isEmpty = true := by rw [ByteArray.toList_eq]; rfl
theorem may_tk1 (nm : ByteArray) (h : nm.toList ≠ []) : mayB (tk 1 nm) = true := by
  have e : nm.toList.isEmpty = false := by simpa using h
  have : mayB (tk 1 nm) = (!nm.toList.isEmpty && (⟨#[]⟩ : ByteArray).toList.isEmpty && attrsOk []) := rfl
  rw [this, e, emp0]; rfl
theorem may_tk2 (nm : ByteArray) (h : nm.toList ≠ []) : mayB (tk 2 nm) = true := by
  have e : nm.toList.isEmpty = false := by simpa using h
  have : mayB (tk 2 nm) = (!nm.toList.isEmpty && (⟨#[]⟩ : ByteArray).toList.isEmpty && true && true) := rfl
  rw [this, e, emp0]; rfl
theorem toks_snoc (ts : List S41) (t : S41) : toks (ts ++ [t]) = toks ts + t.f2.size := by unfold toks; rw [List.map_append, List.sum_append]; simp
/-- A start. -/
theorem inv_start {ts : List S41} {op want : List Int} {ns : List S38} {m : Nat} (h : Inv ts op want ns m) (k : Int) (h0 : 0 ≤ k) (h1 : k < 5) :
    Inv (ts ++ [tk 1 (nmK k)]) (if k < 3 ∧ op.length < 32 then op ++ [((want.length + 1 : Nat) : Int)] else op) (want ++ [op.getLast?.getD 0]) (ns ++ [⟨1, nmK k, ⟨#[]⟩, [], op.getLast?.getD 0⟩]) (m + 1) := by
  obtain ⟨hk, hne⟩ := nmK_kind k h0 h1
  have hso : startOp ns (0 :: op) (nmK k) = 0 :: (if k < 3 ∧ op.length < 32 then op ++ [((want.length + 1 : Nat) : Int)] else op) := by
    unfold startOp
    by_cases hc : k < 3 ∧ op.length < 32
    · rw [if_pos hc, if_pos ⟨hk.2 hc.1, by simp; omega⟩, h.nl]; rfl
    · rw [if_neg hc, if_neg (fun hh => hc ⟨hk.1 hh.1, by have := hh.2; simp at this; omega⟩)]
  refine ⟨?_, by simp [h.ml], by simp [h.wl], by simp [h.nl], ?_, ?_, ?_, ?_, ?_, ?_, ?_⟩
  · rw [stT_snoc, h.st]
    show stepF ns (0 :: op) ⟨1, nmK k, ⟨#[]⟩, [], false⟩ = _
    rw [step_start, lastOf_cons, hso]
  · rw [starts_snoc1 _ _ rfl]; simp [h.sl]
  · intro j hj
    rw [List.length_append, List.length_singleton] at hj
    by_cases hlt : j < want.length
    · rw [getD_snoc1 _ _ _ _ (by rw [h.nl]; omega), getD_snoc1 _ _ _ _ hlt]; exact h.par j hlt
    · obtain rfl : j = want.length := by omega
      rw [← h.nl, getD_snoc2, getD_snoc2]
  · intro j hj
    rw [List.length_append, List.length_singleton] at hj
    rw [starts_snoc1 _ _ rfl]
    by_cases hlt : j < want.length
    · rw [getD_snoc1 _ _ _ _ (by rw [h.nl]; omega), getD_snoc1 _ _ _ _ (by rw [h.sl]; exact hlt)]; exact h.nam j hlt
    · obtain rfl : j = want.length := by omega
      rw [← h.nl, getD_snoc2, ← h.sl, getD_snoc2]; rfl
  · intro x hx
    rw [List.length_append, List.length_singleton]
    split at hx
    · rcases List.mem_append.1 hx with hx | hx
      · have := h.opb x hx; omega
      · simp at hx; subst hx; omega
    · have := h.opb x hx; omega
  · split
    · simp; omega
    · exact h.opl
  · rw [List.all_append, h.may]; simp [may_tk1 _ hne]
  · rw [toks_snoc, h.txt]; rfl
/-- An end. -/
theorem inv_end {ts : List S41} {op want : List Int} {ns : List S38} {m : Nat} (h : Inv ts op want ns m) (nm : ByteArray) (hne : nm.toList ≠ []) (q : List Int) (hq : endOp ns (0 :: op) nm = 0 :: q) (hsub : ∀ x ∈ q, x ∈ op) (hql : q.length ≤ op.length) :
    Inv (ts ++ [tk 2 nm]) q want ns (m + 1) := by
  refine ⟨?_, by simp [h.ml], by have := h.wl; omega, h.nl, ?_, h.par, ?_, fun x hx => h.opb x (hsub x hx), by have := h.opl; omega, ?_, ?_⟩
  · rw [stT_snoc, h.st]
    show stepF ns (0 :: op) ⟨2, nm, ⟨#[]⟩, [], false⟩ = _
    rw [Tr.step_end, hq]
  · rw [starts_snoc2 _ _ (show (2 : Int) ≠ 1 by decide)]; exact h.sl
  · rw [starts_snoc2 _ _ (show (2 : Int) ≠ 1 by decide)]; exact h.nam
  · rw [List.all_append, h.may]; simp [may_tk2 _ hne]
  · rw [toks_snoc, h.txt]; rfl

theorem rdn (ns : List S38) (j : Nat) : rd_T38 ns (j : Int) = ns.getD j z38 := by simp [rd_T38]
theorem rdt (ts : List S41) (j : Nat) : rd_T41 ts (j : Int) = ts.getD j z41 := by simp [rd_T41]
theorem rdi (l : List Int) (j : Nat) : rd l (j : Int) = l.getD j 0 := by simp [rd]
theorem l1_ev (xs : List Int) {ts : List S41} {op want : List Int} {ns : List S38} {m : Nat} (h : Inv ts op want ns m) (hm : m ≤ 100) (k : Int) (h0 : 0 ≤ k) (h1 : k < 5) (i : Nat) (hi : i < 100) (r : Bool) :
    ∀ (j : Nat) (q : List Int), j ≤ op.length → endAt ns (0 :: op) (nmK k) j = 0 :: q → Ev (fun n => stolelaw7_TreeEnds.l0 n xs names5 (ts ++ [tk 2 (nmK k)]) q want ((i + 1 : Nat) : Int)) r →
    Ev (fun n => stolelaw7_TreeEnds.l1 n xs names5 (ts ++ [tk 2 (nmK k)]) op want (i : Int) k ((j : Int) - 1)) r := by
  intro j
  induction j with
  | zero =>
    intro q _ hq hr
    refine Ev.step (f := fun k => _) (fun k => by rw [stolelaw7_TreeEnds.l1]) ?_
    obtain rfl : op = q := by rw [endAt] at hq; exact (List.cons.inj hq).2
    rw [wrap_next (n := 101) (by omega) (by decide)]
    exact Ev.neg (by omega) hr
  | succ j ih =>
    intro q hj hq hr
    have hlt : j < op.length := by omega
    have hm2 : op.getD j 0 ∈ op := by rw [List.getD_eq_getElem?_getD, List.getElem?_eq_getElem hlt]; exact List.getElem_mem hlt
    obtain ⟨hb1, hb2⟩ := h.opb _ hm2
    obtain ⟨n, hn⟩ : ∃ n : Nat, op.getD j 0 = ((n + 1 : Nat) : Int) := ⟨(op.getD j 0 - 1).toNat, by omega⟩
    have hnw : n < want.length := by omega
    have hwl := h.wl
    have hml := h.ml
    have hopl := h.opl
    have hst : starts (ts ++ [tk 2 (nmK k)]) = starts ts := starts_snoc2 _ _ (show (2 : Int) ≠ 1 by decide)
    obtain ⟨p, e1, e2, e3⟩ := at_ev (ts ++ [tk 2 (nmK k)]) (by simp; omega) _ 0 n (Nat.zero_add _) (by rw [List.drop_zero, hst, h.sl]; exact hnw) (by omega)
    rw [List.drop_zero, hst] at e3
    have hj1 : (((j + 1 : Nat) : Int) - 1) = (j : Int) := by omega
    rw [hj1]
    have hname : nameAt ns (0 :: op) (j + 1) = ((starts ts).getD n z41).f1 := by
      unfold nameAt
      rw [rdi, List.getD_cons_succ, hn, rdn, h.nam n hnw]
    refine Ev.step (f := fun k => _) (fun k => by rw [stolelaw7_TreeEnds.l1]) ?_
    refine Ev.pos (by omega) (Ev.pos (by omega) (Ev.pos (by omega) ?_))
    rw [rdi, hn]
    refine Ev.bind (a := (p : Int)) ?_ ?_
    · unfold XE.stolelaw7_at.f; exact e1
    refine Ev.pos (by omega) (Ev.pos (by omega) (Ev.pos h0 (Ev.pos (show k < ((names5.length : Nat) : Int) from h1) ?_)))
    rw [rdt, e3, ← hname]
    rw [endAt] at hq
    by_cases hc : (nameAt ns (0 :: op) (j + 1)).toList = (nmK k).toList
    · rw [if_pos hc, List.take_succ_cons] at hq
      obtain rfl := (List.cons.inj hq).2
      refine Ev.pos hc ?_
      simp only [Option.bind_some, Int.toNat_natCast, List.nil_append]
      refine Ev.pos (by omega) (Ev.pos (by simp; have := h.opl; omega) ?_)
      rw [wrap_next (n := 101) (by omega) (by decide)]
      exact hr
    · rw [if_neg hc] at hq
      refine Ev.neg hc ?_
      have hw : wrap64 ((j : Int) - 1) = (j : Int) - 1 := by unfold wrap64; omega
      rw [hw]
      exact ih q (by omega) hq hr
theorem l2_ev {ts : List S41} {op want : List Int} {ns : List S38} {m : Nat} (h : Inv ts op want ns m) (hm : m ≤ 100) : ∀ (d j : Nat), j + d = want.length → Ev (fun n => stolelaw7_TreeEnds.l2 n want ns (j : Int)) true := by
  intro d
  have hwl := h.wl
  have hnl := h.nl
  induction d with
  | zero =>
    intro j hj
    refine Ev.step (f := fun k => _) (fun k => by rw [stolelaw7_TreeEnds.l2]) ?_
    exact Ev.neg (by omega) (Ev.now true)
  | succ d ih =>
    intro j hj
    refine Ev.step (f := fun k => _) (fun k => by rw [stolelaw7_TreeEnds.l2]) ?_
    rw [wrap_next (n := 101) (by omega) (by decide)]
    refine Ev.pos (by omega) (Ev.pos (by omega) (Ev.pos (by omega) (Ev.pos (by omega) (Ev.pos ?_ (ih (j + 1) (by omega))))))
    rw [rdn, rdi]
    exact h.par j (by omega)
theorem fin_ev (xs : List Int) {ts : List S41} {op want : List Int} {ns : List S38} {m : Nat} (h : Inv ts op want ns m) (hm : m ≤ 100) (i : Int) : Ev (fun n => stolelaw7_TreeEnds.j1 n xs names5 ts op want i false) true := by
  have hwl := h.wl
  refine Ev.step (f := fun k => _) (fun k => by rw [stolelaw7_TreeEnds.j1]) ?_
  refine Ev.neg (by decide) ?_
  have hb : tree_Build.f ts = some (ns, 0) := by
    unfold tree_Build.f
    rw [if_pos (by rw [h.txt]; decide), buildF_ok ts h.may (by rw [h.st]; simp only; have := h.nl; omega), h.st]
  refine Ev.bindC hb ?_
  simp only [stolelaw0_Num.f, Option.bind_some]
  refine Ev.pos trivial ?_
  have hlen : (((ns.length : Nat) : Int) != wrap64 ((want.length : Int) + 1)) = false := by
    rw [wrap_next (n := 101) (by omega) (by decide), h.nl]; simp
  rw [hlen]
  refine Ev.step (f := fun k => _) (fun k => by rw [stolelaw7_TreeEnds.j3]) ?_
  exact Ev.neg (by decide) (l2_ev h hm _ 0 (Nat.zero_add _))
theorem bits1 (x : Int) : Go.bits .and .i64 x 1 = x % 2 := and_mask x 1 (by decide)
theorem main_ev (xs : List Int) : ∀ (d i : Nat) (ts : List S41) (op want : List Int) (ns : List S38), i + d = 40 → i ≤ xs.length → Inv ts op want ns i → Ev (fun n => stolelaw7_TreeEnds.l0 n xs names5 ts op want (i : Int)) true := by
  intro d
  induction d with
  | zero =>
    intro i ts op want ns hi hx h
    refine Ev.step (f := fun k => _) (fun k => by rw [stolelaw7_TreeEnds.l0]) ?_
    have hd : decide ((i : Int) < 40) = false := decide_eq_false (by omega)
    by_cases hl : (i : Int) < (xs.length : Int)
    · refine Ev.pos hl ?_
      rw [hd]; exact fin_ev xs h (by omega) _
    · exact Ev.neg hl (fin_ev xs h (by omega) _)
  | succ d ih =>
    intro i ts op want ns hi hx h
    refine Ev.step (f := fun k => _) (fun k => by rw [stolelaw7_TreeEnds.l0]) ?_
    by_cases hl : (i : Int) < (xs.length : Int)
    · refine Ev.pos hl ?_
      rw [decide_eq_true (show (i : Int) < 40 by omega)]
      refine Ev.step (f := fun k => _) (fun k => by rw [stolelaw7_TreeEnds.j1]) ?_
      refine Ev.pos rfl (Ev.pos (by omega) (Ev.pos hl ?_))
      obtain ⟨k, hk⟩ : ∃ k, Int.tmod (rd xs (i : Int)) 5 = k := ⟨_, rfl⟩
      rw [hk]
      have hk5 : k < 5 := by rw [← hk]; exact Int.tmod_lt_of_pos _ (by decide)
      by_cases hneg : k < 0
      · exact Ev.pos hneg (Ev.now true)
      refine Ev.neg hneg ?_
      have hk0 : 0 ≤ k := by omega
      have hne := (nmK_kind k hk0 hk5).2
      have hwl := h.wl
      have hml := h.ml
      have hopl := h.opl
      by_cases hb : Go.bits .and .i64 ((rd xs (i : Int)) / 16) 1 = 0
      · refine Ev.pos hb (Ev.pos hk0 (Ev.pos (show k < ((names5.length : Nat) : Int) from hk5) ?_))
        simp only [XE.stolelaw7_start.f, Option.bind_some]
        refine Ev.pos (by omega) ?_
        have hn := ih (i + 1) _ _ _ _ (by omega) (by omega) (inv_start h k hk0 hk5)
        have hw : wrap64 ((i : Int) + 1) = ((i + 1 : Nat) : Int) := wrap_next (n := 41) (by omega) (by decide)
        have fin : ∀ (g : Int), g = op.getLast?.getD 0 → Ev (fun n => (if k < 3 then (if (op.length : Int) < 32 then (if op.length < 17592186044416 then (stolelaw7_TreeEnds.l0 n xs names5 (ts ++ [tk 1 (nmK k)]) (op ++ [(((want ++ [g]).length : Nat) : Int)]) (want ++ [g]) ((i + 1 : Nat) : Int)) else none) else (stolelaw7_TreeEnds.l0 n xs names5 (ts ++ [tk 1 (nmK k)]) op (want ++ [g]) ((i + 1 : Nat) : Int))) else (stolelaw7_TreeEnds.l0 n xs names5 (ts ++ [tk 1 (nmK k)]) op (want ++ [g]) ((i + 1 : Nat) : Int)))) true := by
          rintro g rfl
          by_cases c1 : k < 3
          · refine Ev.pos c1 ?_
            by_cases c2 : op.length < 32
            · rw [if_pos ⟨c1, c2⟩] at hn
              refine Ev.pos (by omega) (Ev.pos (by omega) ?_)
              rw [List.length_append, List.length_singleton]; exact hn
            · rw [if_neg (fun hh => c2 hh.2)] at hn
              exact Ev.neg (by omega) hn
          · rw [if_neg (fun hh => c1 hh.1)] at hn
            exact Ev.neg c1 hn
        by_cases ho : (op.length : Int) > 0
        · refine Ev.pos ho ?_
          have hww : wrap64 ((op.length : Int) - 1) = ((op.length - 1 : Nat) : Int) := by unfold wrap64; omega
          rw [hww]
          refine Ev.pos (by omega) (Ev.pos (by omega) (Ev.pos (by omega) ?_))
          rw [hw]
          refine fin _ ?_
          rw [rdi, List.getLast?_eq_getElem?, List.getD_eq_getElem?_getD]
        · have ho0 : op = [] := List.eq_nil_of_length_eq_zero (by omega)
          refine Ev.neg ho (Ev.pos (by omega) ?_)
          rw [hw]
          exact fin 0 (by rw [ho0]; rfl)
      · refine Ev.neg hb (Ev.pos hk0 (Ev.pos (show k < ((names5.length : Nat) : Int) from hk5) ?_))
        simp only [XE.stolelaw7_end.f, Option.bind_some]
        refine Ev.pos (by omega) ?_
        have hww : wrap64 ((op.length : Int) - 1) = (op.length : Int) - 1 := by unfold wrap64; omega
        rw [hww]
        obtain ⟨e0, e1, e2⟩ := endOp_sub ns (0 :: op) (nmK k) (by simp)
        have hq : ∃ q, endOp ns (0 :: op) (nmK k) = 0 :: q ∧ (∀ x ∈ q, x ∈ op) ∧ q.length ≤ op.length := by
          have key : ∀ j, j ≤ op.length → ∃ q, endAt ns (0 :: op) (nmK k) j = 0 :: q ∧ (∀ x ∈ q, x ∈ op) ∧ q.length ≤ op.length := by
            intro j
            induction j with
            | zero => intro _; exact ⟨op, rfl, fun _ h => h, Nat.le_refl _⟩
            | succ j ihj =>
              intro hj
              rw [endAt]
              split
              · exact ⟨op.take j, by rw [List.take_succ_cons], fun x hx => List.mem_of_mem_take hx, by simp; omega⟩
              · exact ihj (by omega)
          exact key _ (by simp)
        obtain ⟨q, hq1, hq2, hq3⟩ := hq
        refine l1_ev xs h (by omega) k hk0 hk5 i (by omega) true op.length q (Nat.le_refl _) ?_ ?_
        · have : endOp ns (0 :: op) (nmK k) = endAt ns (0 :: op) (nmK k) op.length := by unfold endOp; rw [List.length_cons]; rfl
          rw [← this]; exact hq1
        · exact ih (i + 1) _ _ _ _ (by omega) (by omega) (inv_end h (nmK k) hne q hq1 hq2 hq3)
    · exact Ev.neg hl (fin_ev xs h (by omega) _)
theorem TreeEnds (xs : List Int) (h : xs.length * 8 ≤ 140737488351232) : ∃ k, stolelaw7_TreeEnds.f k xs = some true := by
  have hm := main_ev xs 40 0 [] [] [] [root] (by omega) (Nat.zero_le _) inv0
  have : Ev (fun k => stolelaw7_TreeEnds.f k xs) true := by
    unfold stolelaw7_TreeEnds.f
    refine Ev.bindC awakeE ?_
    exact Ev.pos rfl hm
  exact this.rounds
end Go.Proofs.Ytkhgnaakcaghjaa.Pure
