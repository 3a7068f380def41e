/- A parameter of type []api.Token, opened to a row that is read; the bound of the second form. -/
import Derived.Test.YtkhgnaakcaghjaaRows
import Derived.Test.YtkhgnaakcaghjaaTrShape
import Derived.Deep.Slices
import Derived.Deep.Fields
import Derived.ChangeSame
import Derived.ChangeArms
namespace Go.Proofs.Ytkhgnaakcaghjaa.Tr
open Go.RowKit Go.Proofs.Ytkhgnaakcaghjaa.XA Go.Proofs.Ytkhgnaakcaghjaa.Base Go.Proofs.YtkhgnaakcaghjaaW.PrintWords Go.Proofs.YtkhgnaakcaghjaaW.PrintLast Go.Proofs.YtkhgnaakcaghjaaW.PrintMore Go.ChangeShapes Go.WideShapes Go.Deep
set_option linter.unusedVariables false
set_option linter.unusedSimpArgs false

/-- A slice of structs whose fields are one cell each: its elements' fields, one by one. -/
theorem row_fields {H : Type} {enc : TypeId × Value → H} {P : Program} {w : World} {base : Nat} {spare : Nat → Bool} {held : Bool} {t e : TypeId} {fs : Array Field} {fuel : Nat} {cs : List Value} {x : DataW H × List MemPlace}
    (ht : P.underlying t = some (.slice e)) (he : P.underlying e = some (.struct fs)) (h1 : oneCellFields P fs = true) (hC : P.cellsOf e = fs.size) (h : DataW.trod enc P w base spare held fuel t cs = some x) :
    (cs = [.slice none 0 0] ∧ x.1 = .nil) ∨ ∃ (a : Addr) (len cap : Nat) (D : Nat → DataW H) (sp : List (DataW H)), cs = [.slice (some a) len cap] ∧ len ≤ cap ∧ cap ≤ maxLen ∧ x.1 = .slice ((List.range len).map D) sp ∧
      ∀ i, i < len → ∃ (ys : List (DataW H × List MemPlace)) (n : Nat), D i = .agg (ys.map (·.1)) ∧
        ∀ (j : Nat) (f : Field), fs[j]? = some f → ∃ (v : Value) (y : DataW H × List MemPlace), w.cell? (a.add (i * fs.size + j)) = some v ∧ ys[j]? = some y ∧ DataW.trod enc P w base spare held n f.type [v] = some y := by
  obtain ⟨e1, e2⟩ | ⟨a, len, cap, m, n, D, Pl, e1, _, hlc, hcm, hm, e2, hall⟩ := open_slice ht h
  · exact .inl ⟨e1, by rw [e2]⟩
  · have hlm : len ≤ m := by rw [hm]; split <;> omega
    refine .inr ⟨a, len, cap, D, _, e1, hlc, hcm, by rw [e2], fun i hi => ?_⟩
    obtain ⟨c, hc, hct⟩ := hall i (Nat.lt_of_lt_of_le hi hlm)
    obtain ⟨ys, n2, _, hy, hcl, hyl, hf⟩ := DataW.trod_struct he hct
    obtain ⟨hD, _⟩ := Prod.mk.inj hy
    refine ⟨ys, n2, hD, fun j f hj => ?_⟩
    have hlt : j < fs.size := (Array.getElem?_eq_some_iff.1 hj).1
    obtain ⟨o, k⟩ := hone_of h1 j f hj
    rw [hC] at hc
    have hread := (World.cells?_some hc).2
    have hlen := hread.1
    have hyj : ys[j]? = some (ys[j]'(by rw [hyl]; exact hlt)) := List.getElem?_eq_getElem _
    have hcj : c[j]? = some (c[j]'(by rw [hlen]; exact hlt)) := List.getElem?_eq_getElem _
    have hfj := hf j f hj
    rw [o, k, List.drop_eq_getElem_cons (show j < c.length by rw [hlen]; exact hlt)] at hfj
    refine ⟨_, _, ?_, hyj, hfj.trans hyj⟩
    have := hread.2 j hlt
    rw [hcj] at this
    rw [← this, ← Go.Deep.add_add]
theorem bulk_pos {H : Type} (d : DataW H) : 1 ≤ Rows.uptoBulk d := by
  cases d with
  | lit l => cases l <;> simp [Rows.uptoBulk]
  | nil => simp [Rows.uptoBulk]
  | ptr d => simp [Rows.uptoBulk]
  | slice a b => simp [Rows.uptoBulk]
  | agg a => simp [Rows.uptoBulk]
  | iface t d => simp [Rows.uptoBulk]
  | map a => simp [Rows.uptoBulk]
  | held a => simp [Rows.uptoBulk]
theorem bulk_len {H : Type} (l : List (DataW H)) : l.length ≤ Rows.uptoBulkAll l := by
  induction l with
  | nil => simp [Rows.uptoBulkAll]
  | cons d l ih => have := bulk_pos d; simp only [Rows.uptoBulkAll, List.length_cons]; omega
theorem bulk_at {H : Type} (l : List (DataW H)) : ∀ (j : Nat) (y : DataW H), l[j]? = some y → Rows.uptoBulk y ≤ Rows.uptoBulkAll l := by
  induction l with
  | nil => intro j y h; simp at h
  | cons d l ih =>
    intro j y h
    simp only [Rows.uptoBulkAll]
    cases j with
    | zero => obtain rfl : d = y := by simpa using h
              omega
    | succ j => have := ih j y (by simpa using h); omega
theorem bulk_sum {H : Type} (f : Nat → S41) (D : Nat → DataW H) : ∀ is : List Nat, (∀ i ∈ is, (f i).f2.size ≤ Rows.uptoBulk (D i)) → toks (is.map f) ≤ Rows.uptoBulkAll (is.map D) := by
  intro is
  induction is with
  | nil => intro _; simp [toks, Rows.uptoBulkAll]
  | cons i is ih =>
    intro h
    have h1 := h i List.mem_cons_self
    have h2 := ih (fun j hj => h j (List.mem_cons_of_mem _ hj))
    have e : toks ((i :: is).map f) = (f i).f2.size + toks (is.map f) := rfl
    rw [e]; simp only [List.map_cons, Rows.uptoBulkAll]; omega
section
variable {H : Type} {enc : TypeId × Value → H} {W : World} {base : Nat} {spare : Nat → Bool} {held : Bool}
theorem open_attrs {fuel : Nat} {v : Value} {x : DataW H × List MemPlace} (h : DataW.trod enc Try.prog W base spare held fuel 36 [v] = some x) :
    ∃ (A : Option Addr) (c : Nat) (l : List S48), v = .slice A l.length c ∧ l.length ≤ c ∧ Kd.C k48 W A l.length l ∧ l.length ≤ Rows.uptoBulk x.1 ∧ ∀ a ∈ l, a.f0.size ≤ Rows.uptoBulk x.1 := by
  rcases row_fields Try.underlying36 Try.underlying48 (by kernel_rfl) (by kernel_rfl) h with ⟨hcs, hx⟩ | ⟨a, len, cap, D, sp, hcs, hl, hm, hx, hi⟩
  · simp only [List.cons.injEq, and_true] at hcs
    subst hcs
    exact ⟨none, 0, [], rfl, Nat.le_refl _, Kd.C_nil _ _, Nat.zero_le _, fun a ha => by cases ha⟩
  · simp only [List.cons.injEq, and_true] at hcs
    subst hcs
    have each : ∀ i : Nat, ∃ t : S48, i < len → W.cell? (a.add (i * 2 + 0)) = some (.string t.f0) ∧ W.cell? (a.add (i * 2 + 1)) = some (.string t.f1) ∧ t.f0.size ≤ Rows.uptoBulk (D i) := by
      intro i
      by_cases hlt : i < len
      · obtain ⟨ys, n, hD, hfld⟩ := hi i hlt
        obtain ⟨v0, y0, c0, i0, t0⟩ := hfld 0 _ rfl
        obtain ⟨v1, y1, c1, _, t1⟩ := hfld 1 _ rfl
        obtain ⟨s0, e0, hy0, _⟩ := DataW.trod_string (by kernel_rfl) t0
        obtain ⟨s1, e1, _⟩ := DataW.trod_string (by kernel_rfl) t1
        simp only [List.cons.injEq, and_true] at e0 e1
        subst e0; subst e1
        refine ⟨⟨s0, s1⟩, fun _ => ⟨c0, c1, ?_⟩⟩
        rw [hD]
        have := bulk_at (ys.map (·.1)) 0 y0.1 (by rw [List.getElem?_map, i0]; rfl)
        rw [hy0] at this
        simp only [Rows.uptoBulk] at this ⊢
        have e : s0.data.toList.length = s0.size := rfl
        show s0.size ≤ _
        omega
      · exact ⟨⟨⟨#[]⟩, ⟨#[]⟩⟩, fun hh => absurd hh hlt⟩
    obtain ⟨f, hf⟩ := Classical.axiomOfChoice each
    have hlen : ((List.range len).map f).length = len := by simp
    refine ⟨some a, cap, (List.range len).map f, by rw [hlen], by rw [hlen]; exact hl, ?_, ?_, ?_⟩
    · rw [hlen]
      refine ⟨hlen, Nat.le_trans hl (by simpa [maxLen] using hm), fun _ => ⟨a, rfl, fun j p hp => ?_⟩⟩
      have hj : j < len := by have := (List.getElem?_eq_some_iff.1 hp).1; rwa [hlen] at this
      obtain rfl : f j = p := by
        rw [List.getElem?_map, List.getElem?_range hj] at hp; simpa using hp
      obtain ⟨g0, g1, _⟩ := hf j hj
      refine ⟨[.string (f j).f0, .string (f j).f1], rfl, k48_mk _ _, fun i u hu => ?_⟩
      have hi2 : i < 2 := (List.getElem?_eq_some_iff.1 hu).1
      obtain rfl | rfl : i = 0 ∨ i = 1 := by omega
      · rw [← hu]; exact g0
      · rw [← hu]; exact g1
    · rw [hx, hlen]
      have := bulk_len ((List.range len).map D)
      rw [List.length_map, List.length_range] at this
      simp only [Rows.uptoBulk]; omega
    · intro y hy
      obtain ⟨i, hi3, rfl⟩ := List.mem_map.1 hy
      have hil := List.mem_range.1 hi3
      have h3 := (hf i hil).2.2
      have := bulk_at ((List.range len).map D) i (D i) (by rw [List.getElem?_map, List.getElem?_range hil]; rfl)
      rw [hx]
      simp only [Rows.uptoBulk]; omega
theorem open_toks {A : Option Addr} {len cap : Nat} {d : DataW H} {ps : List MemPlace} (h : DataW.Trod enc Try.prog W base spare held 22 (.slice A len cap) d ps) (hb : Rows.uptoBulk d ≤ 1048576) :
    ∃ l : List S41, len = l.length ∧ l.length ≤ cap ∧ Kd.C k41 W A l.length l ∧ toks l ≤ 1048576 ∧ l.length ≤ 1048576 ∧ ∀ x ∈ l, x.f3.length ≤ 1048576 ∧ ∀ a ∈ x.f3, a.f0.size ≤ 1048576 := by
  obtain ⟨fuel, h⟩ := h
  rcases row_fields Try.underlying22 Try.underlying41 (by kernel_rfl) (by kernel_rfl) h with ⟨hcs, hx⟩ | ⟨a, len', cap', D, sp, hcs, hl, hm, hx, hi⟩
  · simp [Value.cells] at hcs
    obtain ⟨rfl, rfl, rfl⟩ := hcs
    exact ⟨[], rfl, Nat.le_refl _, Kd.C_nil _ _, Nat.zero_le _, Nat.zero_le _, fun x hx => by cases hx⟩
  · simp [Value.cells] at hcs
    obtain ⟨rfl, rfl, rfl⟩ := hcs
    have hx2 : d = _ := hx
    subst hx2
    simp only [Rows.uptoBulk] at hb
    have hbl := bulk_len ((List.range len).map D)
    rw [List.length_map, List.length_range] at hbl
    have each : ∀ i : Nat, ∃ t : S41, i < len → (∃ A3 c3, W.cell? (a.add (i * 5 + 0)) = some (.int .i64 t.f0) ∧ W.cell? (a.add (i * 5 + 1)) = some (.string t.f1) ∧ W.cell? (a.add (i * 5 + 2)) = some (.string t.f2) ∧ W.cell? (a.add (i * 5 + 3)) = some (.slice A3 t.f3.length c3) ∧ W.cell? (a.add (i * 5 + 4)) = some (.bool t.f4) ∧ t.f3.length ≤ c3 ∧ Kd.C k48 W A3 t.f3.length t.f3) ∧ t.f2.size ≤ Rows.uptoBulk (D i) ∧ t.f3.length ≤ Rows.uptoBulk (D i) ∧ ∀ a ∈ t.f3, a.f0.size ≤ Rows.uptoBulk (D i) := by
      intro i
      by_cases hlt : i < len
      · obtain ⟨ys, n, hD, hfld⟩ := hi i hlt
        obtain ⟨v0, y0, c0, _, t0⟩ := hfld 0 _ rfl
        obtain ⟨v1, y1, c1, _, t1⟩ := hfld 1 _ rfl
        obtain ⟨v2, y2, c2, i2, t2⟩ := hfld 2 _ rfl
        obtain ⟨v3, y3, c3, i3, t3⟩ := hfld 3 _ rfl
        obtain ⟨v4, y4, c4, _, t4⟩ := hfld 4 _ rfl
        obtain ⟨s0, e0, _⟩ := DataW.trod_int (k := .i64) (by kernel_rfl) t0
        obtain ⟨s1, e1, _⟩ := DataW.trod_string (by kernel_rfl) t1
        obtain ⟨s2, e2, hy2, _⟩ := DataW.trod_string (by kernel_rfl) t2
        obtain ⟨s4, e4, _⟩ := DataW.trod_bool (by kernel_rfl) t4
        obtain ⟨A3, cc, l3, e3, g3, hC3, hb3, hn3⟩ := open_attrs t3
        simp only [List.cons.injEq, and_true] at e0 e1 e2 e4
        subst e0; subst e1; subst e2; subst e3; subst e4
        refine ⟨⟨s0, s1, s2, l3, s4⟩, fun _ => ⟨⟨A3, cc, c0, c1, c2, c3, c4, g3, hC3⟩, ?_, ?_, ?_⟩⟩
        · rw [hD]
          have := bulk_at (ys.map (·.1)) 2 y2.1 (by rw [List.getElem?_map, i2]; rfl)
          rw [hy2] at this
          simp only [Rows.uptoBulk] at this ⊢
          have e : s2.data.toList.length = s2.size := rfl
          show s2.size ≤ _
          omega
        · rw [hD]
          have := bulk_at (ys.map (·.1)) 3 y3.1 (by rw [List.getElem?_map, i3]; rfl)
          simp only [Rows.uptoBulk]
          show l3.length ≤ _
          omega
        · rw [hD]
          have := bulk_at (ys.map (·.1)) 3 y3.1 (by rw [List.getElem?_map, i3]; rfl)
          simp only [Rows.uptoBulk]
          intro a ha
          have := hn3 a ha
          omega
      · exact ⟨z41, fun hh => absurd hh hlt⟩
    obtain ⟨f, hf⟩ := Classical.axiomOfChoice each
    have hlen : ((List.range len).map f).length = len := by simp
    refine ⟨(List.range len).map f, by rw [hlen], by rw [hlen]; exact hl, ?_, ?_, by rw [hlen]; omega, ?_⟩
    · rw [hlen]
      refine ⟨hlen, Nat.le_trans hl (by simpa [maxLen] using hm), fun _ => ⟨a, rfl, fun j p hp => ?_⟩⟩
      have hj : j < len := by have := (List.getElem?_eq_some_iff.1 hp).1; rwa [hlen] at this
      obtain rfl : f j = p := by
        rw [List.getElem?_map, List.getElem?_range hj] at hp; simpa using hp
      obtain ⟨⟨A3, c3, g0, g1, g2, g3, g4, g5, g6⟩, _⟩ := hf j hj
      refine ⟨[.int .i64 (f j).f0, .string (f j).f1, .string (f j).f2, .slice A3 (f j).f3.length c3, .bool (f j).f4], rfl, k41_mk _ _ g5 g6, fun i u hu => ?_⟩
      have hi2 : i < 5 := (List.getElem?_eq_some_iff.1 hu).1
      obtain rfl | rfl | rfl | rfl | rfl : i = 0 ∨ i = 1 ∨ i = 2 ∨ i = 3 ∨ i = 4 := by omega
      · rw [← hu]; exact g0
      · rw [← hu]; exact g1
      · rw [← hu]; exact g2
      · rw [← hu]; exact g3
      · rw [← hu]; exact g4
    · have := bulk_sum f D (List.range len) (fun i hi3 => (hf i (List.mem_range.1 hi3)).2.1)
      omega
    · intro x hx
      obtain ⟨i, hi3, rfl⟩ := List.mem_map.1 hx
      have hil := List.mem_range.1 hi3
      have h3 := (hf i hil).2.2
      have := bulk_at ((List.range len).map D) i (D i) (by rw [List.getElem?_map, List.getElem?_range hil]; rfl)
      exact ⟨by omega, fun a ha => by have := h3.2 a ha; omega⟩
end
end Go.Proofs.Ytkhgnaakcaghjaa.Tr
