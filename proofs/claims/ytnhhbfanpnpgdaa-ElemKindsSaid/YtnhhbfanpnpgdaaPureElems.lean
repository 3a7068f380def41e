/- Elems: elem.Kind and elem.Attr are the document's, of any name: the printed functions' plain law. -/
import Derived.Test.YtnhhbfanpnpgdaaXF6
import Derived.Test.YtnhhbfanpnpgdaaBase
namespace Go.Proofs.Ytnhhbfanpnpgdaa.Pure
open Go.RowKit Go.Proofs.Ytnhhbfanpnpgdaa.XF Go.Proofs.YtnhhbfanpnpgdaaW.PrintWords Go.Proofs.YtnhhbfanpnpgdaaW.PrintLast Go.Proofs.Ytnhhbfanpnpgdaa.Base Go.Proofs.Ytnhhbfanpnpgdaa.Ext

theorem ex_ite {α : Type} {c : Prop} [Decidable c] {a b : Option α} (h1 : ∃ v, a = some v) (h2 : ∃ v, b = some v) : ∃ v, (if c then a else b) = some v := by
  by_cases h : c
  · rw [if_pos h]; exact h1
  · rw [if_neg h]; exact h2

theorem k1_eq : ∀ (k : Nat) (s : ByteArray) (b : Bool), elem_Kind.j1 k s b = stoleref1_Elem.j1 k s b := by
  intro k s b; cases k <;> rfl
theorem k0_eq : ∀ (k : Nat) (s : ByteArray) (b : Bool), elem_Kind.j0 k s b = stoleref1_Elem.j0 k s b := by
  intro k s b
  cases k with
  | zero => rfl
  | succ k => simp only [elem_Kind.j0, stoleref1_Elem.j0, k1_eq]
theorem kind_eq (k : Nat) (s : ByteArray) : elem_Kind.f k s = stoleref1_Elem.f k s := by
  unfold elem_Kind.f stoleref1_Elem.f
  simp only [k0_eq]
theorem kind_some (s : ByteArray) : ∃ v, elem_Kind.f 3 s = some v := by
  unfold elem_Kind.f
  simp only [elem_Kind.j0, elem_Kind.j1]
  repeat' first | exact ⟨_, rfl⟩ | refine ex_ite ?_ ?_
theorem kind_ev (s : ByteArray) : ∃ v, Ev (fun k => elem_Kind.f k s) v ∧ Ev (fun k => stoleref1_Elem.f k s) v := by
  obtain ⟨v, hv⟩ := kind_some s
  exact ⟨v, Ev.of (fun k => elem_Kind.mono _ k) hv, Ev.congr (fun k => (kind_eq k s).symm) (Ev.of (fun k => elem_Kind.mono _ k) hv)⟩

theorem pre_on (s : ByteArray) : strings_HasPrefix.f s (⟨#[111, 110]⟩ : ByteArray) = some (decide ((s.size : Int) ≥ 2) && ((s.extract 0 2).toList == ([111, 110] : List UInt8))) := by
  unfold strings_HasPrefix.f stringslite_HasPrefix.f
  have e : (((⟨#[111, 110]⟩ : ByteArray).size : Nat) : Int) = 2 := rfl
  have e2 : (⟨#[111, 110]⟩ : ByteArray).toList = [111, 110] := by rw [list_eq]
  rw [e, e2]
  by_cases h : (s.size : Int) ≥ 2
  · rw [if_pos h, if_pos (by decide), if_pos (by omega), decide_eq_true h, Bool.true_and]; rfl
  · rw [if_neg h, decide_eq_false h, Bool.false_and]; rfl
theorem a0_eq : ∀ (k : Nat) (s t : ByteArray) (b : Bool), elem_Attr.j0 k s t b = stoleref1_AttrKind.j0 k s t b := by
  intro k s t b
  cases k with
  | zero => rfl
  | succ k =>
    simp only [elem_Attr.j0, stoleref1_AttrKind.j0, pre_on, Option.bind_some]
    by_cases hb : b = true
    · rw [if_pos hb, if_pos hb]
    rw [if_neg hb, if_neg hb]
    by_cases ht : t.toList = ([115, 116, 121, 108, 101] : List UInt8)
    · rw [if_pos ht, if_pos ht]
    rw [if_neg ht, if_neg ht]
    by_cases h : (s.size : Int) > 2
    · rw [if_pos h, if_pos h, if_pos (show 0 ≤ 2 by decide), if_pos (show (2 : Int) ≤ (s.size : Int) by omega), decide_eq_true (show (s.size : Int) ≥ 2 by omega), Bool.true_and]
      by_cases e : (s.extract 0 2).toList = ([111, 110] : List UInt8)
      · rw [if_pos (by rw [e]; rfl), if_pos e]
      · rw [if_neg (by rw [beq_iff_eq]; exact e), if_neg e]
    · rw [if_neg h, if_neg h]
      exact ite_both (fun _ => rfl) (fun _ => rfl)
theorem attr_eq (k : Nat) (s : ByteArray) : elem_Attr.f k s = stoleref1_AttrKind.f k s := by
  unfold elem_Attr.f stoleref1_AttrKind.f
  simp only [a0_eq]
theorem attr_some (s : ByteArray) : ∃ v, elem_Attr.f 3 s = some v := by
  unfold elem_Attr.f
  simp only [elem_Attr.j0, pre_on, Option.bind_some]
  repeat' first | exact ⟨_, rfl⟩ | refine ex_ite ?_ ?_
theorem attr_ev (s : ByteArray) : ∃ v, Ev (fun k => elem_Attr.f k s) v ∧ Ev (fun k => stoleref1_AttrKind.f k s) v := by
  obtain ⟨v, hv⟩ := attr_some s
  exact ⟨v, Ev.of (fun k => elem_Attr.mono _ k) hv, Ev.congr (fun k => (attr_eq k s).symm) (Ev.of (fun k => elem_Attr.mono _ k) hv)⟩

theorem awake6 : Ev (fun k => stolelaw6_awake.f k) true := Ev.of (fun k => stolelaw6_awake.mono k) (k := 5) (by decide +kernel)

theorem elems_loop (s t : ByteArray) (ht : t.size ≤ 140737488351232) (names : List ByteArray) (hn : ∀ x ∈ names, x.size ≤ 100) (hl : names.length ≤ 100) : ∀ (d : Nat) (i : Nat), i + d = names.length →
    Ev (fun k => stolelaw6_Elems.l0 k s t names (i : Int)) true := by
  intro d
  induction d with
  | zero =>
    intro i hi
    refine Ev.step (f := fun k => _) (fun k => by rw [stolelaw6_Elems.l0]) ?_
    refine Ev.neg (by omega) ?_
    obtain ⟨v, h1, h2⟩ := kind_ev s
    obtain ⟨u, h3, h4⟩ := attr_ev s
    exact Ev.bind h1 (Ev.bind h2 (Ev.pos rfl (Ev.bind h3 (Ev.bind h4 (Ev.pos rfl (Ev.bind awake6 (Ev.now true)))))))
  | succ d ih =>
    intro i hi
    refine Ev.step (f := fun k => _) (fun k => by rw [stolelaw6_Elems.l0]) ?_
    have hw : wrap64 ((i : Int) + 1) = ((i + 1 : Nat) : Int) := wrap_next (n := names.length) (by omega) (by omega)
    rw [hw]
    generalize hx : rdOf ByteArray.empty names (i : Int) = x
    have hxs : x.size ≤ 100 := by
      rw [← hx]
      unfold rdOf
      rw [Int.toNat_natCast, List.getD_eq_getElem?_getD, List.getElem?_eq_getElem (by omega : i < names.length), Option.getD_some]
      exact hn _ (List.getElem_mem _)
    obtain ⟨v, h1, h2⟩ := kind_ev x
    obtain ⟨u, h3, h4⟩ := attr_ev x
    obtain ⟨v', h5, h6⟩ := kind_ev (x ++ t)
    obtain ⟨u', h7, h8⟩ := attr_ev (x ++ t)
    exact Ev.pos (by omega) (Ev.pos (by omega) (Ev.bind h1 (Ev.bind h2 (Ev.pos rfl (Ev.bind h3 (Ev.bind h4 (Ev.pos rfl (Ev.pos (by omega) (Ev.bind h5 (Ev.bind h6 (Ev.pos rfl (Ev.bind h7 (Ev.bind h8 (Ev.pos rfl (ih (i + 1) (by omega))))))))))))))))

theorem Elems : stolelaw6_Elems.Pure := by
  intro s t hs ht
  refine Ev.rounds ?_
  unfold stolelaw6_Elems.f
  exact elems_loop s t ht _ (by decide +kernel) (by decide +kernel) 18 0 rfl

end Go.Proofs.Ytnhhbfanpnpgdaa.Pure
