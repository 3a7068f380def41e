/- tree.may: walked. -/
import Derived.Test.YtkhgnaakcaghjaaTrAttrs
namespace Go.Proofs.Ytkhgnaakcaghjaa.Tr
open Go.RowKit Go.Proofs.Ytkhgnaakcaghjaa.XA Go.Proofs.YtkhgnaakcaghjaaW.PrintWords Go.Proofs.YtkhgnaakcaghjaaW.PrintLast Go.Proofs.YtkhgnaakcaghjaaW.PrintMore

/-- May a token be? -/
def mayB (t : S41) : Bool :=
  if t.f0 = 1 then !t.f1.toList.isEmpty && t.f2.toList.isEmpty && attrsOk t.f3
  else if t.f0 = 2 then !t.f1.toList.isEmpty && t.f2.toList.isEmpty && t.f3.isEmpty && !t.f4
  else if t.f0 = 0 ∨ t.f0 = 3 then t.f1.toList.isEmpty && t.f3.isEmpty && !t.f4
  else false

set_option maxHeartbeats 1600000 in
theorem may_calls (k : Int) (nm tx : ByteArray) (l : List S48) (b : Bool) (p : Addr) (A : Option Addr) (c : Nat) (w : World)
    (h0 : w.cell? p = some (.int .i64 k)) (h1 : w.cell? ⟨p.block, p.off + 1, none⟩ = some (.string nm)) (h2 : w.cell? ⟨p.block, p.off + 2, none⟩ = some (.string tx)) (h3 : w.cell? ⟨p.block, p.off + 3, none⟩ = some (.slice A l.length c)) (h4 : w.cell? ⟨p.block, p.off + 4, none⟩ = some (.bool b))
    (hl : l.length ≤ c) (hC : Kd.C k48 w A l.length l) :
    Calls Try.prog 19 #[.pointer (some p)] w fun e w' => e = .returned (.bool (mayB ⟨k, nm, tx, l, b⟩)) ∧ Below w.heap.size w w' := by
  have HA := Aside0.mk (attrs_calls l A c w hC hl)
  have HB := Aside0.mk (Below.refl w.heap.size w)
  clear hC hl
  have hne : ∀ x : List UInt8, (x == []) = x.isEmpty := fun x => by cases x <;> rfl
  obtain ⟨v, hv⟩ : ∃ v, mayB ⟨k, nm, tx, l, b⟩ = v := ⟨_, rfl⟩
  rw [hv]
  have HV := Aside0.mk hv
  clear hv
  unfold mayB at HV
  simp only [] at HV
  obtain ⟨en, hen⟩ : ∃ e, nm.toList.isEmpty = e := ⟨_, rfl⟩
  obtain ⟨et, het⟩ : ∃ e, tx.toList.isEmpty = e := ⟨_, rfl⟩
  rw [hen, het] at HV
  by_cases k1 : k = 1
  · subst k1
    rw [if_pos rfl] at HV
    cases en <;> cases et <;>
    · go_enter Try.func19, Try.ntmps19
      go_wp2_with (go_at_call 28; refine HA.out.mono ?_; rintro e w2 ⟨rfl, hb2⟩)
      go_ret
      first | exact ⟨by rw [← HV.out]; rfl, hb2⟩ | exact ⟨by rw [← HV.out]; rfl, HB.out⟩
  by_cases k2 : k = 2
  · subst k2
    rw [if_neg (by decide), if_pos rfl] at HV
    cases l <;> cases en <;> cases et <;>
    · go_enter Try.func19, Try.ntmps19
      go_wp2
      go_ret
      exact ⟨by rw [← HV.out]; rfl, HB.out⟩
  by_cases k0 : k = 0
  · subst k0
    rw [if_neg (by decide), if_neg (by decide), if_pos (.inl rfl)] at HV
    cases l <;> cases en <;>
    · go_enter Try.func19, Try.ntmps19
      go_wp2
      go_ret
      exact ⟨by rw [← HV.out]; rfl, HB.out⟩
  by_cases k3 : k = 3
  · subst k3
    rw [if_neg (by decide), if_neg (by decide), if_pos (.inr rfl)] at HV
    cases l <;> cases en <;>
    · go_enter Try.func19, Try.ntmps19
      go_wp2
      go_ret
      exact ⟨by rw [← HV.out]; rfl, HB.out⟩
  rw [if_neg k1, if_neg k2, if_neg (by rintro (h | h); exact k0 h; exact k3 h)] at HV
  have b0 : (k == 0) = false := by simpa using k0
  have b1 : (k == 1) = false := by simpa using k1
  have b2 : (k == 2) = false := by simpa using k2
  have b3 : (k == 3) = false := by simpa using k3
  clear k0 k1 k2 k3
  go_enter Try.func19, Try.ntmps19
  go_wp2
  go_ret
  exact ⟨by rw [← HV.out]; rfl, HB.out⟩
end Go.Proofs.Ytkhgnaakcaghjaa.Tr
