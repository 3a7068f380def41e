/- What holds of the nodes that Build makes: the plain shape. -/
import Derived.Test.YtkhgnaakcaghjaaTrFold
namespace Go.Proofs.Ytkhgnaakcaghjaa.Tr
open Go.RowKit Go.Proofs.Ytkhgnaakcaghjaa.XA Go.Proofs.Ytkhgnaakcaghjaa.Base Go.Proofs.YtkhgnaakcaghjaaW.PrintWords Go.Proofs.YtkhgnaakcaghjaaW.PrintLast Go.Proofs.YtkhgnaakcaghjaaW.PrintMore
set_option linter.unusedVariables false
set_option linter.unusedSimpArgs false

def nd (ns : List S38) (j : Nat) : S38 := ns.getD j z38
theorem nd_left (ns : List S38) (x : S38) (j : Nat) (h : j < ns.length) : nd (ns ++ [x]) j = nd ns j := by
  unfold nd; rw [List.getD_eq_getElem?_getD, List.getD_eq_getElem?_getD, List.getElem?_append_left h]
theorem nd_last (ns : List S38) (x : S38) : nd (ns ++ [x]) ns.length = x := by
  unfold nd; rw [List.getD_eq_getElem?_getD, List.getElem?_append_right (Nat.le_refl _)]; simp
/-- Each node hangs on one ahead of it that is the root or an element, no deeper than 33; D: how deep. -/
structure Sh (ns : List S38) (op : List Int) (D : Nat → Nat) : Prop where
  ne : 1 ≤ ns.length
  r0 : (nd ns 0).f0 = 0
  r1 : (nd ns 0).f4 = -1
  d0 : D 0 = 0
  node : ∀ i, 1 ≤ i → i < ns.length → (nd ns i).f0 ≠ 0 ∧ ∃ p : Nat, (nd ns i).f4 = (p : Int) ∧ p < i ∧ ((nd ns p).f0 = 0 ∨ (nd ns p).f0 = 1) ∧ D i = D p + 1 ∧ D i ≤ 33 ∧
    ¬ ((nd ns i).f0 = 2 ∧ (nd ns (i - 1)).f0 = 2 ∧ (nd ns (i - 1)).f4 = (p : Int))
  opn : ∀ (j : Nat) (x : Int), op[j]? = some x → ∃ q : Nat, x = (q : Int) ∧ q < ns.length ∧ D q ≤ j ∧ ((nd ns q).f0 = 0 ∨ (nd ns q).f0 = 1)
  op0 : op ≠ []
  op1 : op.length ≤ 33
theorem sh_root : Sh [root] [0] (fun _ => 0) := ⟨by simp, rfl, rfl, rfl, fun i h1 h2 => by simp at h2; omega, fun j x hx => by
  have hj : j < 1 := (List.getElem?_eq_some_iff.1 hx).1
  obtain rfl : j = 0 := by omega
  obtain rfl : (0 : Int) = x := by simpa using hx
  exact ⟨0, rfl, by simp, by simp, .inl rfl⟩, by simp, by simp⟩
section
variable {ns : List S38} {op : List Int} {D : Nat → Nat}
theorem Sh.last (h : Sh ns op D) : ∃ q : Nat, lastOf op = (q : Int) ∧ q < ns.length ∧ D q ≤ op.length - 1 ∧ ((nd ns q).f0 = 0 ∨ (nd ns q).f0 = 1) := by
  have hl := List.length_pos_iff.2 h.op0
  have hg : op[op.length - 1]? = some op[op.length - 1] := List.getElem?_eq_getElem (by omega)
  obtain ⟨q, h1, h2⟩ := h.opn _ _ hg
  exact ⟨q, by unfold lastOf; rw [List.getLast?_eq_getElem?, hg]; exact h1, h2⟩
theorem Sh.push (h : Sh ns op D) (x : S38) (h4 : x.f4 = lastOf op) (h0 : x.f0 ≠ 0) (ht : ¬ (x.f0 = 2 ∧ (nd ns (ns.length - 1)).f0 = 2 ∧ (nd ns (ns.length - 1)).f4 = lastOf op)) :
    ∃ D', Sh (ns ++ [x]) op D' ∧ D' ns.length ≤ op.length := by
  obtain ⟨q, hq, hlt, hd, hk⟩ := h.last
  have hl := List.length_pos_iff.2 h.op0
  have ho := h.op1
  have hn := h.ne
  refine ⟨fun j => if j = ns.length then D q + 1 else D j, ⟨by simp, by rw [nd_left _ _ _ (by omega)]; exact h.r0, by rw [nd_left _ _ _ (by omega)]; exact h.r1, by rw [if_neg (by omega)]; exact h.d0, ?_, ?_, h.op0, h.op1⟩, by show (if ns.length = ns.length then D q + 1 else D ns.length) ≤ op.length; rw [if_pos rfl]; omega⟩
  · intro i h1 h2
    rw [List.length_append, List.length_singleton] at h2
    by_cases he : i = ns.length
    · subst he
      rw [nd_last, nd_left _ _ _ (by omega), if_pos rfl]
      refine ⟨h0, q, h4.trans hq, hlt, by rw [nd_left _ _ _ hlt]; exact hk, by rw [if_neg (by omega)], by omega, ?_⟩
      rw [← hq]; exact ht
    · obtain ⟨a1, p, a2, a3, a4, a5, a6, a7⟩ := h.node i h1 (by omega)
      rw [nd_left _ _ _ (by omega), nd_left _ _ _ (by omega), if_neg he]
      exact ⟨a1, p, a2, a3, by rw [nd_left _ _ _ (by omega)]; exact a4, by rw [if_neg (by omega)]; exact a5, a6, a7⟩
  · intro j y hy
    obtain ⟨q', b1, b2, b3, b4⟩ := h.opn j y hy
    exact ⟨q', b1, by simp; omega, by rw [if_neg (by omega)]; exact b3, by rw [nd_left _ _ _ b2]; exact b4⟩
theorem Sh.opening (h : Sh ns op D) (q : Nat) (h1 : q < ns.length) (h2 : D q ≤ op.length) (h3 : (nd ns q).f0 = 0 ∨ (nd ns q).f0 = 1) (h4 : op.length ≤ 32) : Sh ns (op ++ [(q : Int)]) D := by
  refine ⟨h.ne, h.r0, h.r1, h.d0, h.node, ?_, by simp, by simp; omega⟩
  intro j y hy
  by_cases hj : j < op.length
  · rw [List.getElem?_append_left hj] at hy; exact h.opn j y hy
  · have hj2 : j < (op ++ [(q : Int)]).length := (List.getElem?_eq_some_iff.1 hy).1
    rw [List.length_append, List.length_singleton] at hj2
    obtain rfl : j = op.length := by omega
    rw [List.getElem?_append_right (Nat.le_refl _)] at hy
    obtain rfl : (q : Int) = y := by simpa using hy
    exact ⟨q, rfl, h1, h2, h3⟩
theorem Sh.takes (h : Sh ns op D) (n : Nat) (hn : 1 ≤ n) : Sh ns (op.take n) D := by
  have hl := List.length_pos_iff.2 h.op0
  refine ⟨h.ne, h.r0, h.r1, h.d0, h.node, ?_, fun e => ?_, by have := h.op1; rw [List.length_take]; omega⟩
  · intro j y hy
    rw [List.getElem?_take] at hy
    split at hy
    · exact h.opn j y hy
    · cases hy
  · have := congrArg List.length e
    rw [List.length_take, List.length_nil] at this; omega
theorem Sh.same (h : Sh ns op D) {ns' : List S38} (hl : ns'.length = ns.length) (h0 : ∀ j, (nd ns' j).f0 = (nd ns j).f0) (h4 : ∀ j, (nd ns' j).f4 = (nd ns j).f4) : Sh ns' op D := by
  refine ⟨by rw [hl]; exact h.ne, by rw [h0]; exact h.r0, by rw [h4]; exact h.r1, h.d0, ?_, ?_, h.op0, h.op1⟩
  · intro i h1 h2
    rw [hl] at h2
    obtain ⟨a1, p, a2, a3, a4, a5⟩ := h.node i h1 h2
    rw [h0, h0, h4, h4]
    exact ⟨a1, p, a2, a3, by rw [h0]; exact a4, a5⟩
  · intro j y hy
    obtain ⟨q', b1, b2, b3, b4⟩ := h.opn j y hy
    exact ⟨q', b1, by rw [hl]; exact b2, b3, by rw [h0]; exact b4⟩
end
theorem endAt_take (ns : List S38) (op : List Int) (nm : ByteArray) : ∀ i, endAt ns op nm i = op ∨ ∃ n, 1 ≤ n ∧ endAt ns op nm i = op.take n := by
  intro i
  induction i with
  | zero => exact .inl rfl
  | succ i ih =>
    rw [endAt]
    split
    · exact .inr ⟨i + 1, by omega, rfl⟩
    · exact ih
theorem last_set (ns : List S38) (l y : S38) (h : ns.getLast? = some l) : ns = ns.dropLast ++ [l] ∧ ns.set (ns.length - 1) y = ns.dropLast ++ [y] := by
  have hne : ns ≠ [] := by rintro rfl; simp at h
  have e : ns.dropLast ++ [l] = ns := by
    have h2 := List.dropLast_concat_getLast hne
    rw [List.getLast?_eq_some_getLast hne] at h
    rw [← Option.some.inj h]; exact h2
  refine ⟨e.symm, ?_⟩
  have hl : ns.length - 1 = ns.dropLast.length := by rw [List.length_dropLast]
  rw [hl]
  conv => lhs; rw [← e]
  rw [List.set_append_right _ _ (by rw [e]; exact Nat.le_refl _)]
  simp [e]
/-- All texts, one behind the other. -/
def txN (ns : List S38) : List UInt8 := ns.flatMap fun x => if x.f0 = 2 then x.f2.data.toList else []
def txT (ts : List S41) : List UInt8 := ts.flatMap fun t => if t.f0 = 0 then t.f2.data.toList else []
def elN (ns : List S38) : Nat := ns.countP fun x => decide (x.f0 = 1)
def elT (ts : List S41) : Nat := ts.countP fun t => decide (t.f0 = 1)
theorem txN_snoc (ns : List S38) (x : S38) : txN (ns ++ [x]) = txN ns ++ (if x.f0 = 2 then x.f2.data.toList else []) := by unfold txN; rw [List.flatMap_append]; simp
theorem elN_snoc (ns : List S38) (x : S38) : elN (ns ++ [x]) = elN ns + (if x.f0 = 1 then 1 else 0) := by unfold elN; rw [List.countP_append, List.countP_singleton]; simp
theorem txT_snoc (ts : List S41) (x : S41) : txT (ts ++ [x]) = txT ts ++ (if x.f0 = 0 then x.f2.data.toList else []) := by unfold txT; rw [List.flatMap_append]; simp
theorem elT_snoc (ts : List S41) (x : S41) : elT (ts ++ [x]) = elT ts + (if x.f0 = 1 then 1 else 0) := by unfold elT; rw [List.countP_append, List.countP_singleton]; simp
theorem textF_shape {ns : List S38} {op : List Int} {D : Nat → Nat} (h : Sh ns op D) (s : ByteArray) :
    (∃ D', Sh (textF ns op s) op D') ∧ txN (textF ns op s) = txN ns ++ s.data.toList ∧ elN (textF ns op s) = elN ns := by
  have hne : ns ≠ [] := fun e => by have := h.ne; rw [e] at this; simp at this
  obtain ⟨l, hl⟩ : ∃ l, ns.getLast? = some l := ⟨_, List.getLast?_eq_some_getLast hne⟩
  have hnd : nd ns (ns.length - 1) = l := by unfold nd; rw [List.getD_eq_getElem?_getD, ← List.getLast?_eq_getElem?, hl]; rfl
  unfold textF
  rw [hl]
  simp only
  by_cases c1 : l.f0 = 2 ∧ l.f4 = lastOf op
  · rw [if_pos c1]
    obtain ⟨e1, e2⟩ := last_set ns l ⟨l.f0, l.f1, l.f2 ++ s, l.f3, l.f4⟩ hl
    have hlen : ns.length = ns.dropLast.length + 1 := by have := congrArg List.length e1; rwa [List.length_append, List.length_singleton] at this
    refine ⟨⟨D, h.same (by simp) ?_ ?_⟩, ?_, ?_⟩
    · intro j
      rw [e2]; conv => rhs; rw [e1]
      rcases Nat.lt_trichotomy j ns.dropLast.length with hj | hj | hj
      · rw [nd_left _ _ _ hj, nd_left _ _ _ hj]
      · subst hj; rw [nd_last, nd_last]
      · unfold nd; rw [List.getD_eq_getElem?_getD, List.getD_eq_getElem?_getD, List.getElem?_eq_none (by simp; omega), List.getElem?_eq_none (by simp; omega)]
    · intro j
      rw [e2]; conv => rhs; rw [e1]
      rcases Nat.lt_trichotomy j ns.dropLast.length with hj | hj | hj
      · rw [nd_left _ _ _ hj, nd_left _ _ _ hj]
      · subst hj; rw [nd_last, nd_last]
      · unfold nd; rw [List.getD_eq_getElem?_getD, List.getD_eq_getElem?_getD, List.getElem?_eq_none (by simp; omega), List.getElem?_eq_none (by simp; omega)]
    · rw [e2, txN_snoc]; conv => rhs; rw [e1, txN_snoc]
      rw [if_pos c1.1, if_pos c1.1, data_append, List.append_assoc]
    · rw [e2, elN_snoc]; conv => rhs; rw [e1, elN_snoc]
  · rw [if_neg c1]
    by_cases c2 : s.toList = []
    · rw [if_pos c2]
      rw [list_eq] at c2
      exact ⟨⟨D, h⟩, by rw [c2, List.append_nil], rfl⟩
    · rw [if_neg c2]
      obtain ⟨D', h2, _⟩ := h.push ⟨2, ⟨#[]⟩, s, [], lastOf op⟩ rfl (by simp) (by rw [hnd]; exact fun hh => c1 hh.2)
      exact ⟨⟨D', h2⟩, by rw [txN_snoc]; rfl, by rw [elN_snoc]; rfl⟩
theorem stepF_shape {ns : List S38} {op : List Int} {D : Nat → Nat} (h : Sh ns op D) (t : S41) :
    (∃ D', Sh (stepF ns op t).1 (stepF ns op t).2 D') ∧ txN (stepF ns op t).1 = txN ns ++ (if t.f0 = 0 then t.f2.data.toList else []) ∧ elN (stepF ns op t).1 = elN ns + (if t.f0 = 1 then 1 else 0) := by
  unfold stepF
  by_cases k0 : t.f0 = 0
  · rw [if_pos k0, if_pos k0, if_neg (by omega)]
    exact textF_shape h t.f2
  · rw [if_neg k0, if_neg k0]
    by_cases k3 : t.f0 = 3
    · rw [if_pos k3, if_neg (by omega)]
      obtain ⟨D', h2, _⟩ := h.push ⟨3, ⟨#[]⟩, t.f2, [], lastOf op⟩ rfl (by simp) (by simp)
      exact ⟨⟨D', h2⟩, by rw [txN_snoc]; rfl, by rw [elN_snoc]; rfl⟩
    · rw [if_neg k3]
      by_cases k1 : t.f0 = 1
      · rw [if_pos k1, if_pos k1]
        obtain ⟨D', h2, h3⟩ := h.push ⟨1, t.f1, ⟨#[]⟩, t.f3, lastOf op⟩ rfl (by simp) (by simp)
        refine ⟨⟨D', ?_⟩, by rw [txN_snoc]; rfl, by rw [elN_snoc]; rfl⟩
        show Sh (ns ++ [⟨1, t.f1, ⟨#[]⟩, t.f3, lastOf op⟩]) (startOp ns op t.f1) D'
        unfold startOp
        split
        · rename_i c
          exact h2.opening ns.length (by simp) h3 (by rw [nd_last]; exact .inr rfl) c.2
        · exact h2
      · rw [if_neg k1, if_neg k1]
        refine ⟨⟨D, ?_⟩, by simp, by simp⟩
        show Sh ns (endAt ns op t.f1 (op.length - 1)) D
        rcases endAt_take ns op t.f1 (op.length - 1) with e | ⟨n, hn, e⟩
        · rw [e]; exact h
        · rw [e]; exact h.takes n hn
theorem runF_shape (ts : List S41) : ∀ (ns : List S38) (op : List Int) (D : Nat → Nat) (r : List S38), Sh ns op D → ns.length ≤ 4096 → runF ts ns op = some r →
    (∃ op' D', Sh r op' D') ∧ r.length ≤ 4096 ∧ txN r = txN ns ++ txT ts ∧ elN r = elN ns + elT ts := by
  induction ts with
  | nil =>
    intro ns op D r h hl hr
    obtain rfl := Option.some.inj hr
    exact ⟨⟨op, D, h⟩, hl, by simp [txT], by simp [elT]⟩
  | cons t ts ih =>
    intro ns op D r h hl hr
    rw [runF] at hr
    split at hr
    · cases hr
    · rename_i c
      obtain ⟨⟨D', h1⟩, h2, h3⟩ := stepF_shape h t
      obtain ⟨a1, a2, a3, a4⟩ := ih _ _ D' r h1 (by omega) hr
      refine ⟨a1, a2, ?_, ?_⟩
      · rw [a3, h2, List.append_assoc]; rfl
      · rw [a4, h3]; unfold elT; rw [List.countP_cons]; simp only [decide_eq_true_eq]; omega
/-- What Build says, as a whole. -/
theorem buildF_shape (ts : List S41) : (buildF ts).2 ≠ 0 ∧ (buildF ts).1 = [] ∨ (buildF ts).2 = 0 ∧ (∃ op D, Sh (buildF ts).1 op D) ∧ (buildF ts).1.length ≤ 4096 ∧ txN (buildF ts).1 = txT ts ∧ elN (buildF ts).1 = elT ts := by
  unfold buildF
  split
  · cases hr : runF ts [root] [0] with
    | none => exact .inl ⟨by decide, rfl⟩
    | some r =>
      obtain ⟨a1, a2, a3, a4⟩ := runF_shape ts [root] [0] _ r sh_root (by simp) hr
      have e1 : txN [root] = [] := rfl
      have e2 : elN [root] = 0 := rfl
      rw [e1] at a3; rw [e2] at a4
      exact .inr ⟨rfl, a1, a2, by rw [show (resF (some r)).1 = r from rfl, a3]; rfl, by rw [show (resF (some r)).1 = r from rfl, a4]; omega⟩
  · exact .inl ⟨by decide, rfl⟩
end Go.Proofs.Ytkhgnaakcaghjaa.Tr
