/- What tree.Build does, as plain functions; what holds on its way. -/
import Derived.Test.YtkhgnaakcaghjaaTrEnd
namespace Go.Proofs.Ytkhgnaakcaghjaa.Tr
open Go.RowKit Go.Proofs.Ytkhgnaakcaghjaa.XA Go.Proofs.YtkhgnaakcaghjaaW.PrintWords Go.Proofs.YtkhgnaakcaghjaaW.PrintLast Go.Proofs.YtkhgnaakcaghjaaW.PrintMore
set_option linter.unusedVariables false
set_option linter.unusedSimpArgs false

def root : S38 := ⟨0, ⟨#[]⟩, ⟨#[]⟩, [], -1⟩
/-- One token. -/
def stepF (ns : List S38) (op : List Int) (t : S41) : List S38 × List Int :=
  if t.f0 = 0 then (textF ns op t.f2, op)
  else if t.f0 = 3 then (ns ++ [⟨3, ⟨#[]⟩, t.f2, [], lastOf op⟩], op)
  else if t.f0 = 1 then (ns ++ [⟨1, t.f1, ⟨#[]⟩, t.f3, lastOf op⟩], startOp ns op t.f1)
  else (ns, endOp ns op t.f1)
def runF : List S41 → List S38 → List Int → Option (List S38)
  | [], ns, _ => some ns
  | t :: ts, ns, op => if (stepF ns op t).1.length > 4096 then none else runF ts (stepF ns op t).1 (stepF ns op t).2
def resF : Option (List S38) → List S38 × Int
  | some ns => (ns, 0)
  | none => ([], 701)
def buildF (ts : List S41) : List S38 × Int :=
  if ts.all mayB = true then resF (runF ts [root] [0]) else ([], 700)

def texts (ns : List S38) : Nat := (ns.map fun x => x.f2.size).sum
def toks (ts : List S41) : Nat := (ts.map fun x => x.f2.size).sum
theorem texts_append (a b : List S38) : texts (a ++ b) = texts a + texts b := by simp [texts]
theorem texts_set (ns : List S38) : ∀ (i : Nat) (h : i < ns.length) (x : S38), texts (ns.set i x) + ns[i].f2.size = texts ns + x.f2.size := by
  induction ns with
  | nil => intro i h; simp at h
  | cons n ns ih =>
    intro i h x
    cases i with
    | zero => simp [texts]; omega
    | succ i =>
      have := ih i (by simpa using h) x
      simp only [texts, List.set_cons_succ, List.map_cons, List.sum_cons, List.getElem_cons_succ] at *
      omega
/-- What holds ahead of each token. -/
structure Good (ns : List S38) (op : List Int) (m : Nat) : Prop where
  op0 : op ≠ []
  op1 : op.length ≤ 33
  ok : OpOk ns op
  ns0 : ns ≠ []
  ns1 : ns.length ≤ 4096
  tx : texts ns ≤ m
theorem OpOk.more {ns ns' : List S38} {op : List Int} (h : OpOk ns op) (hl : ns.length ≤ ns'.length) : OpOk ns' op := fun x hx => by
  have := h x hx; omega
theorem endAt_sub (ns : List S38) (op : List Int) (nm : ByteArray) (h0 : op ≠ []) : ∀ i, i < op.length → endAt ns op nm i ≠ [] ∧ (endAt ns op nm i).length ≤ op.length ∧ ∀ x ∈ endAt ns op nm i, x ∈ op := by
  intro i
  induction i with
  | zero => intro _; exact ⟨h0, Nat.le_refl _, fun _ h => h⟩
  | succ i ih =>
    intro hi
    rw [endAt]
    split
    · refine ⟨fun h => ?_, by simp; omega, fun x hx => List.mem_of_mem_take hx⟩
      have h2 := congrArg List.length h
      rw [List.length_take, List.length_nil] at h2
      omega
    · exact ih (by omega)
theorem endOp_sub (ns : List S38) (op : List Int) (nm : ByteArray) (h0 : op ≠ []) : endOp ns op nm ≠ [] ∧ (endOp ns op nm).length ≤ op.length ∧ ∀ x ∈ endOp ns op nm, x ∈ op := by
  have := List.length_pos_iff.2 h0
  exact endAt_sub ns op nm h0 _ (by omega)
theorem textF_len (ns : List S38) (op : List Int) (s : ByteArray) : ns.length ≤ (textF ns op s).length ∧ (textF ns op s).length ≤ ns.length + 1 := by
  unfold textF
  split
  · split
    · simp
    · split <;> simp
  · simp
theorem textF_texts (ns : List S38) (op : List Int) (s : ByteArray) : texts (textF ns op s) ≤ texts ns + s.size := by
  unfold textF
  split
  · rename_i l hl
    split
    · rw [List.getLast?_eq_getElem?] at hl
      have hi : ns.length - 1 < ns.length := (List.getElem?_eq_some_iff.1 hl).1
      have hx := (List.getElem?_eq_some_iff.1 hl).2
      have := texts_set ns (ns.length - 1) hi ⟨l.f0, l.f1, l.f2 ++ s, l.f3, l.f4⟩
      rw [hx] at this
      have h2 : (l.f2 ++ s).size = l.f2.size + s.size := ByteArray.size_append
      simp only [h2] at this
      omega
    · split
      · omega
      · rw [texts_append]; simp [texts]
  · omega
theorem stepF_len (ns : List S38) (op : List Int) (t : S41) : ns.length ≤ (stepF ns op t).1.length ∧ (stepF ns op t).1.length ≤ ns.length + 1 := by
  unfold stepF
  split
  · exact textF_len ns op _
  split
  · simp
  split
  · simp
  · simp
theorem good_step {ns : List S38} {op : List Int} {m : Nat} (h : Good ns op m) (t : S41) (hl : (stepF ns op t).1.length ≤ 4096) : Good (stepF ns op t).1 (stepF ns op t).2 (m + t.f2.size) := by
  have hlen := (stepF_len ns op t).1
  have hne : ∀ l : List S38, ns.length ≤ l.length → l ≠ [] := by
    intro l hl e
    have := List.length_pos_iff.2 h.ns0
    rw [e, List.length_nil] at hl; omega
  unfold stepF at hl hlen ⊢
  split at hl
  · rename_i k
    rw [if_pos k] at hlen ⊢
    exact ⟨h.op0, h.op1, h.ok.more hlen, hne _ hlen, hl, by have := textF_texts ns op t.f2; have := h.tx; simp only; omega⟩
  rename_i k
  rw [if_neg k] at hlen ⊢
  split at hl
  · rename_i k
    rw [if_pos k] at hlen ⊢
    exact ⟨h.op0, h.op1, h.ok.more hlen, hne _ hlen, hl, by rw [texts_append]; have := h.tx; simp [texts] at *; omega⟩
  rename_i k
  rw [if_neg k] at hlen ⊢
  split at hl
  · rename_i k
    rw [if_pos k] at hlen ⊢
    refine ⟨?_, ?_, ?_, hne _ hlen, hl, by rw [texts_append]; have := h.tx; have e0 : texts [(⟨1, t.f1, ⟨#[]⟩, t.f3, lastOf op⟩ : S38)] = 0 := rfl; rw [e0]; omega⟩
    · unfold startOp; split
      · simp
      · exact h.op0
    · unfold startOp; split
      · rename_i q; simp; omega
      · exact h.op1
    · unfold startOp; split
      · intro x hx
        rcases List.mem_append.1 hx with hx | hx
        · exact h.ok.more hlen x hx
        · simp at hx; subst hx; simp; omega
      · exact h.ok.more hlen
  rename_i k
  rw [if_neg k] at hlen ⊢
  obtain ⟨e0, e1, e2⟩ := endOp_sub ns op t.f1 h.op0
  exact ⟨e0, by have := h.op1; simp only; omega, fun x hx => h.ok x (e2 x hx), h.ns0, hl, by have := h.tx; simp only; omega⟩
theorem good_root : Good [root] [0] 0 := ⟨by simp, by simp, fun x hx => by simp at hx; subst hx; simp, by simp, by simp, by simp [texts, root]; rfl⟩
theorem toks_take (ts : List S41) (k : Nat) (h : k < ts.length) : toks (ts.take (k + 1)) = toks (ts.take k) + ts[k].f2.size := by
  unfold toks; rw [List.take_succ_eq_append_getElem h, List.map_append, List.sum_append]; simp
theorem toks_le (ts : List S41) (k : Nat) : toks (ts.take k) ≤ toks ts := by
  have h : toks ts = toks (ts.take k) + toks (ts.drop k) := by
    unfold toks; rw [← List.sum_append, ← List.map_append, List.take_append_drop]
  omega
theorem getLast_mem_texts (ns : List S38) (l : S38) (h : l ∈ ns.getLast?) : l.f2.size ≤ texts ns := by
  have hm : l ∈ ns := List.mem_of_getLast? h
  unfold texts
  clear h
  induction ns with
  | nil => cases hm
  | cons n ns ih =>
    rcases List.mem_cons.1 hm with rfl | hm
    · simp
    · have := ih hm
      simp; omega
end Go.Proofs.Ytkhgnaakcaghjaa.Tr
