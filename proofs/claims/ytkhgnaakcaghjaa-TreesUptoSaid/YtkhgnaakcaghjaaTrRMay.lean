/- stoleref5.tokenMay is tree.may: plain law. -/
import Derived.Test.YtkhgnaakcaghjaaTrREnd
import Derived.Test.YtkhgnaakcaghjaaBase
namespace Go.Proofs.Ytkhgnaakcaghjaa.Tr
open Go.RowKit Go.Proofs.Ytkhgnaakcaghjaa.XA Go.Proofs.Ytkhgnaakcaghjaa.Base Go.Proofs.YtkhgnaakcaghjaaW.PrintWords Go.Proofs.YtkhgnaakcaghjaaW.PrintLast Go.Proofs.YtkhgnaakcaghjaaW.PrintMore
set_option linter.unusedVariables false
set_option linter.unusedSimpArgs false

theorem rdA (xs : List S48) (i : Nat) (h : i < xs.length) : rd_T48 xs (i : Int) = xs[i] := by simp [rd_T48, List.getD_eq_getElem?_getD, List.getElem?_eq_getElem h]
theorem l1_ev (k0 : Int) (nm tx : ByteArray) (xs : List S48) (sf : Bool) (hx : xs.length ≤ 32) (i : Nat) (hi : i < xs.length) (r : Bool) (h0 : has xs[i].f0 (xs.take i) = false → Ev (fun k => stoleref5_tokenMay.l0 k ((i + 1 : Nat) : Int) k0 nm tx xs sf) r) :
    ∀ (d j : Nat), j + d = i → has xs[i].f0 (xs.take j) = false → Ev (fun k => stoleref5_tokenMay.l1 k (i : Int) (j : Int) k0 nm tx xs sf) (if has xs[i].f0 (xs.take i) = true then false else r) := by
  intro d
  induction d with
  | zero =>
    intro j hj hn
    obtain rfl : j = i := by omega
    refine Ev.step (f := fun k => _) (fun k => by rw [stoleref5_tokenMay.l1]) ?_
    rw [if_neg (by rw [hn]; decide)]
    refine Ev.neg (by omega) ?_
    rw [wrap_next (n := 33) (by omega) (by decide)]
    exact h0 hn
  | succ d ih =>
    intro j hj hn
    refine Ev.step (f := fun k => _) (fun k => by rw [stoleref5_tokenMay.l1]) ?_
    refine Ev.pos (by omega) (Ev.pos (by omega) (Ev.pos (by omega) (Ev.pos (by omega) (Ev.pos (by omega) ?_))))
    rw [rdA xs i hi, rdA xs j (by omega)]
    by_cases hq : (xs[j]'(by omega)).f0.toList = xs[i].f0.toList
    · have hh : has xs[i].f0 (xs.take i) = true := by
        unfold has
        rw [List.any_eq_true]
        exact ⟨xs[j]'(by omega), by rw [List.mem_take_iff_getElem]; exact ⟨j, by omega, rfl⟩, by simpa using hq⟩
      rw [if_pos hh]
      exact Ev.pos hq (Ev.now false)
    · refine Ev.neg hq ?_
      rw [wrap_next (n := 33) (by omega) (by decide)]
      refine ih (j + 1) (by omega) ?_
      rw [has_snoc _ xs j (by omega), hn]
      simpa using hq
theorem l0_ev (k0 : Int) (nm tx : ByteArray) (xs : List S48) (sf : Bool) (hx : xs.length ≤ 32) : ∀ (d i : Nat), i + d = xs.length → okA xs i = true → Ev (fun k => stoleref5_tokenMay.l0 k (i : Int) k0 nm tx xs sf) (okA xs xs.length) := by
  intro d
  induction d with
  | zero =>
    intro i hi ho
    obtain rfl : i = xs.length := by omega
    refine Ev.step (f := fun k => _) (fun k => by rw [stoleref5_tokenMay.l0]) ?_
    rw [ho]
    exact Ev.neg (by omega) (Ev.now true)
  | succ d ih =>
    intro i hi ho
    have hlt : i < xs.length := by omega
    refine Ev.step (f := fun k => _) (fun k => by rw [stoleref5_tokenMay.l0]) ?_
    refine Ev.pos (by omega) (Ev.pos (by omega) ?_)
    rw [rdA xs i hlt]
    have hs : okA xs (i + 1) = (!(xs[i].f0.toList == []) && !has xs[i].f0 (xs.take i)) := by
      rw [okA, ho, List.getElem?_eq_getElem hlt, Bool.true_and]
    by_cases hz : xs[i].f0.toList = []
    · have hf : okA xs (i + 1) = false := by rw [hs, hz]; rfl
      rw [okA_false xs (i + 1) xs.length hlt hf]
      exact Ev.pos hz (Ev.now false)
    · refine Ev.neg hz ?_
      have hz' : (xs[i].f0.toList == []) = false := by simpa using hz
      rw [hz', Bool.not_false, Bool.true_and] at hs
      by_cases hh : has xs[i].f0 (xs.take i) = true
      · rw [hh] at hs
        have hf : okA xs (i + 1) = false := hs
        rw [okA_false xs (i + 1) xs.length hlt hf]
        have := l1_ev k0 nm tx xs sf hx i hlt true (fun h => by rw [hh] at h; cases h) i 0 (by omega) rfl
        rwa [if_pos hh] at this
      · have hh' : has xs[i].f0 (xs.take i) = false := by simpa using hh
        rw [hh'] at hs
        have := l1_ev k0 nm tx xs sf hx i hlt _ (fun _ => ih (i + 1) (by omega) hs) i 0 (by omega) rfl
        rwa [if_neg hh] at this
theorem j1_true (k0 : Int) (nm tx : ByteArray) (xs : List S48) (sf : Bool) : Ev (fun k => stoleref5_tokenMay.j1 k true k0 nm tx xs sf) false :=
  Ev.step (f := fun k => _) (fun k => by rw [stoleref5_tokenMay.j1]) (Ev.pos rfl (Ev.now false))
theorem j1_false (k0 : Int) (nm tx : ByteArray) (xs : List S48) (sf : Bool) (hx : xs.length ≤ 32) : Ev (fun k => stoleref5_tokenMay.j1 k false k0 nm tx xs sf) (okA xs xs.length) :=
by
  refine Ev.step (f := fun k => _) (fun k => by rw [stoleref5_tokenMay.j1]) ?_
  exact Ev.neg (by decide) (l0_ev k0 nm tx xs sf hx xs.length 0 (by omega) rfl)
theorem emp (s : ByteArray) : s.toList.isEmpty = decide (s.toList = []) := by cases s.toList <;> simp
theorem may_ev (t : S41) : Ev (fun k => stoleref5_tokenMay.f k t.f0 t.f1 t.f2 t.f3 t.f4) (mayB t) := by
  obtain ⟨k0, nm, tx, xs, sf⟩ := t
  unfold stoleref5_tokenMay.f mayB
  simp only [emp]
  by_cases h1 : k0 = 1
  · subst h1
    rw [if_pos rfl]
    refine Ev.neg (by decide) (Ev.step (f := fun k => _) (fun k => by rw [stoleref5_tokenMay.j0]) ?_)
    refine Ev.neg (by decide) (Ev.pos rfl ?_)
    by_cases hn : nm.toList = []
    · refine Ev.pos hn (Ev.cast (j1_true _ _ _ _ _) (by simp [hn]))
    refine Ev.neg hn ?_
    by_cases ht : tx.toList = []
    · refine Ev.pos ht ?_
      by_cases hl : xs.length ≤ 32
      · refine Ev.neg (by omega) (Ev.neg (by decide) (Ev.cast (j1_false _ _ _ _ _ hl) ?_))
        simp [hn, ht, attrsOk, hl]
      · refine Ev.pos (by omega) (Ev.cast (j1_true _ _ _ _ _) (by simp [attrsOk, hl]))
    · refine Ev.neg ht (Ev.cast (j1_true _ _ _ _ _) (by simp [ht]))
  rw [if_neg h1]
  by_cases h2 : k0 = 2
  · subst h2
    rw [if_pos rfl]
    refine Ev.neg (by decide) (Ev.step (f := fun k => _) (fun k => by rw [stoleref5_tokenMay.j0]) ?_)
    refine Ev.neg (by decide) (Ev.neg (by decide) (Ev.pos rfl ?_))
    by_cases hn : nm.toList = []
    · refine Ev.pos hn (Ev.cast (j1_true _ _ _ _ _) (by simp [hn]))
    refine Ev.neg hn ?_
    by_cases ht : tx.toList = []
    · refine Ev.pos ht ?_
      by_cases hl : xs.length ≤ 32
      · refine Ev.neg (by omega) ?_
        by_cases h0 : xs = []
        · subst h0
          refine Ev.neg (by simp) ?_
          cases sf
          · exact Ev.cast (j1_false _ _ _ _ _ hl) (by simp [hn, ht]; rfl)
          · exact Ev.cast (j1_true _ _ _ _ _) (by simp)
        · have hp := List.length_pos_iff.2 h0
          refine Ev.pos (by omega) (Ev.cast (j1_true _ _ _ _ _) (by simp [h0]))
      · refine Ev.pos (by omega) (Ev.cast (j1_true _ _ _ _ _) ?_)
        have h0 : xs ≠ [] := by rintro rfl; simp at hl
        simp [h0]
    · refine Ev.neg ht (Ev.cast (j1_true _ _ _ _ _) (by simp [ht]))
  rw [if_neg h2]
  by_cases h03 : k0 = 0 ∨ k0 = 3
  · rw [if_pos h03]
    have key : Ev (fun k => stoleref5_tokenMay.j0 k true k0 nm tx xs sf) (decide (nm.toList = []) && xs.isEmpty && !sf) := by
      refine Ev.step (f := fun k => _) (fun k => by rw [stoleref5_tokenMay.j0]) (Ev.pos rfl ?_)
      by_cases hn : nm.toList = []
      · refine Ev.pos hn ?_
        cases xs with
        | nil => exact Ev.pos rfl (Ev.cast (Ev.now (!sf)) (by simp [hn]))
        | cons x l => exact Ev.neg (by simp; omega) (Ev.cast (Ev.now false) (by simp))
      · exact Ev.neg hn (Ev.cast (Ev.now false) (by simp [hn]))
    rcases h03 with rfl | rfl
    · exact Ev.pos rfl key
    · exact Ev.neg (by decide) key
  · rw [if_neg h03]
    have h0 : k0 ≠ 0 := fun h => h03 (.inl h)
    have h3 : (k0 == 3) = false := by simpa using fun h => h03 (.inr h)
    refine Ev.neg h0 ?_
    simp only [h3]
    exact Ev.step (f := fun k => _) (fun k => by rw [stoleref5_tokenMay.j0]) (Ev.neg (by decide) (Ev.neg h1 (Ev.neg h2 (j1_true _ _ _ _ _))))
end Go.Proofs.Ytkhgnaakcaghjaa.Tr
