/- Build as a fold over the tokens. -/
import Derived.Test.YtkhgnaakcaghjaaTrExt
namespace Go.Proofs.Ytkhgnaakcaghjaa.Tr
open Go.RowKit Go.Proofs.Ytkhgnaakcaghjaa.XA Go.Proofs.Ytkhgnaakcaghjaa.Base Go.Proofs.YtkhgnaakcaghjaaW.PrintWords Go.Proofs.YtkhgnaakcaghjaaW.PrintLast Go.Proofs.YtkhgnaakcaghjaaW.PrintMore
set_option linter.unusedVariables false
set_option linter.unusedSimpArgs false

def foldT (ts : List S41) (p : List S38 × List Int) : List S38 × List Int := ts.foldl (fun p t => stepF p.1 p.2 t) p
def stT (ts : List S41) : List S38 × List Int := foldT ts ([root], [0])
theorem foldT_len (ts : List S41) : ∀ p, p.1.length ≤ (foldT ts p).1.length := by
  induction ts with
  | nil => intro p; exact Nat.le_refl _
  | cons t ts ih => intro p; exact Nat.le_trans (stepF_len p.1 p.2 t).1 (ih _)
theorem runF_fold (ts : List S41) : ∀ ns op, (foldT ts (ns, op)).1.length ≤ 4096 → runF ts ns op = some (foldT ts (ns, op)).1 := by
  induction ts with
  | nil => intro ns op _; rfl
  | cons t ts ih =>
    intro ns op h
    have h1 := foldT_len ts (stepF ns op t)
    have h2 : (foldT ts (stepF ns op t)).1.length ≤ 4096 := h
    rw [runF, if_neg (by omega)]
    exact ih _ _ h
theorem runF_full (ts : List S41) : ∀ ns op, 4096 < (foldT ts (ns, op)).1.length → ns.length ≤ 4096 → runF ts ns op = none := by
  induction ts with
  | nil => intro ns op h h2; have h3 : (foldT [] (ns, op)).1.length = ns.length := rfl; omega
  | cons t ts ih =>
    intro ns op h h2
    rw [runF]
    by_cases h1 : (stepF ns op t).1.length > 4096
    · rw [if_pos h1]
    · rw [if_neg h1]; exact ih _ _ h (by omega)
theorem stT_snoc (ts : List S41) (t : S41) : stT (ts ++ [t]) = stepF (stT ts).1 (stT ts).2 t := by
  unfold stT foldT; rw [List.foldl_append]; rfl
theorem buildF_ok (ts : List S41) (hm : ts.all mayB = true) (hl : (stT ts).1.length ≤ 4096) : buildF ts = ((stT ts).1, 0) := by
  unfold buildF; rw [if_pos hm, runF_fold ts _ _ hl]; rfl
theorem buildF_full (ts : List S41) (hm : ts.all mayB = true) (hl : 4096 < (stT ts).1.length) : buildF ts = ([], 701) := by
  unfold buildF; rw [if_pos hm, runF_full ts _ _ hl (by decide)]; rfl
theorem step_start (ns : List S38) (op : List Int) (nm : ByteArray) (l : List S48) (b : Bool) : stepF ns op ⟨1, nm, ⟨#[]⟩, l, b⟩ = (ns ++ [⟨1, nm, ⟨#[]⟩, l, lastOf op⟩], startOp ns op nm) := rfl
theorem step_end (ns : List S38) (op : List Int) (nm : ByteArray) (l : List S48) (b : Bool) : stepF ns op ⟨2, nm, ⟨#[]⟩, l, b⟩ = (ns, endOp ns op nm) := rfl
def starts (ts : List S41) : List S41 := ts.filter fun t => decide (t.f0 = 1)
theorem starts_snoc1 (ts : List S41) (t : S41) (h : t.f0 = 1) : starts (ts ++ [t]) = starts ts ++ [t] := by
  unfold starts; rw [List.filter_append]; simp [List.filter_cons, h]
theorem starts_snoc2 (ts : List S41) (t : S41) (h : t.f0 ≠ 1) : starts (ts ++ [t]) = starts ts := by
  unfold starts; rw [List.filter_append]; simp [List.filter_cons, h]
end Go.Proofs.Ytkhgnaakcaghjaa.Tr
