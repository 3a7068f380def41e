/- TreeShapes: the shape of what Build makes: the printed function's plain law. -/
import Derived.Test.YtkhgnaakcaghjaaXB2
import Derived.Test.YtkhgnaakcaghjaaTrShape
namespace Go.Proofs.Ytkhgnaakcaghjaa.Pure
open Go.RowKit Go.Proofs.Ytkhgnaakcaghjaa.XB Go.Proofs.Ytkhgnaakcaghjaa.XA Go.Proofs.Ytkhgnaakcaghjaa.Ext Go.Proofs.Ytkhgnaakcaghjaa.Tr Go.Proofs.Ytkhgnaakcaghjaa.Base Go.Proofs.YtkhgnaakcaghjaaW.PrintWords Go.Proofs.YtkhgnaakcaghjaaW.PrintLast
set_option linter.unusedVariables false
set_option linter.unusedSimpArgs false

theorem awakeS : XB.stolelaw7_awake.f = some true := by decide +kernel
theorem rdN (ns : List S38) (j : Nat) : rd_T38 ns (j : Int) = nd ns j := by simp [rd_T38, nd]
theorem txN_take (ns : List S38) (i : Nat) (h : i < ns.length) : txN (ns.take (i + 1)) = txN (ns.take i) ++ (if (nd ns i).f0 = 2 then (nd ns i).f2.data.toList else []) := by
  have e : nd ns i = ns[i] := by simp [nd, List.getD_eq_getElem?_getD, List.getElem?_eq_getElem h]
  rw [List.take_succ_eq_append_getElem h, txN_snoc, e]
theorem elN_take (ns : List S38) (i : Nat) (h : i < ns.length) : elN (ns.take (i + 1)) = elN (ns.take i) + (if (nd ns i).f0 = 1 then 1 else 0) := by
  have e : nd ns i = ns[i] := by simp [nd, List.getD_eq_getElem?_getD, List.getElem?_eq_getElem h]
  rw [List.take_succ_eq_append_getElem h, elN_snoc, e]
theorem txT_take (ts : List S41) (i : Nat) (h : i < ts.length) : txT (ts.take (i + 1)) = txT (ts.take i) ++ (if (rd_T41 ts (i : Int)).f0 = 0 then (rd_T41 ts (i : Int)).f2.data.toList else []) := by
  have e : rd_T41 ts (i : Int) = ts[i] := by simp [rd_T41, List.getD_eq_getElem?_getD, List.getElem?_eq_getElem h]
  rw [List.take_succ_eq_append_getElem h, txT_snoc, e]
theorem elT_take (ts : List S41) (i : Nat) (h : i < ts.length) : elT (ts.take (i + 1)) = elT (ts.take i) + (if (rd_T41 ts (i : Int)).f0 = 1 then 1 else 0) := by
  have e : rd_T41 ts (i : Int) = ts[i] := by simp [rd_T41, List.getD_eq_getElem?_getD, List.getElem?_eq_getElem h]
  rw [List.take_succ_eq_append_getElem h, elT_snoc, e]
theorem txN_len (ns : List S38) (i : Nat) : (txN (ns.take i)).length ≤ (txN ns).length := by
  have : txN ns = txN (ns.take i) ++ txN (ns.drop i) := by unfold txN; rw [← List.flatMap_append, List.take_append_drop]
  rw [this, List.length_append]; omega
theorem txT_len (ts : List S41) (i : Nat) : (txT (ts.take i)).length ≤ (txT ts).length := by
  have : txT ts = txT (ts.take i) ++ txT (ts.drop i) := by unfold txT; rw [← List.flatMap_append, List.take_append_drop]
  rw [this, List.length_append]; omega
theorem txT_toks (ts : List S41) : (txT ts).length ≤ toks ts := by
  induction ts with
  | nil => exact Nat.le_refl _
  | cons t ts ih =>
    have e1 : txT (t :: ts) = (if t.f0 = 0 then t.f2.data.toList else []) ++ txT ts := rfl
    have e2 : toks (t :: ts) = t.f2.size + toks ts := rfl
    rw [e1, e2, List.length_append]
    split
    · have : t.f2.data.toList.length = t.f2.size := rfl
      omega
    · simp; omega
theorem elT_le (ts : List S41) (i : Nat) : elT (ts.take i) ≤ ts.length := by
  have := List.countP_le_length (p := fun t : S41 => decide (t.f0 = 1)) (l := ts.take i)
  unfold elT; rw [List.length_take] at this; omega
theorem elN_le (ns : List S38) (i : Nat) : elN (ns.take i) ≤ ns.length := by
  have := List.countP_le_length (p := fun t : S38 => decide (t.f0 = 1)) (l := ns.take i)
  unfold elN; rw [List.length_take] at this; omega

theorem l2_ev (ns : List S38) (hn : ns.length ≤ 4096) (x6 x9 : ByteArray) (h69 : x6.toList = x9.toList) (m : Int) (hm : m = (elN ns : Int)) : ∀ d i, i + d = ns.length →
    Ev (fun k => stolelaw7_TreeShapes.l2 k ns x6 x9 m (elN (ns.take i) : Int) (i : Int)) true := by
  intro d
  induction d with
  | zero =>
    intro i hi
    refine Ev.step (f := fun k => _) (fun k => by rw [stolelaw7_TreeShapes.l2]) ?_
    refine Ev.neg (by omega) (Ev.pos h69 (Ev.ofSome ?_))
    rw [List.take_of_length_le (by omega), hm]; simp
  | succ d ih =>
    intro i hi
    have h := ih (i + 1) (by omega)
    have hel := elN_le ns i
    rw [elN_take ns i (by omega)] at h
    refine Ev.step (f := fun k => _) (fun k => by rw [stolelaw7_TreeShapes.l2]) ?_
    refine Ev.pos (by omega) (Ev.pos (by omega) ?_)
    rw [rdN]
    by_cases c : (nd ns i).f0 = 1
    · rw [if_pos c] at h
      refine Ev.pos c ?_
      rw [wrap_next (n := 5000) (by omega) (by decide), wrap_next (n := 5000) (by omega) (by decide)]
      exact h
    · rw [if_neg c, Nat.add_zero] at h
      refine Ev.neg c ?_
      rw [wrap_next (n := 5000) (by omega) (by decide)]
      exact h
theorem l1_ev2 (ts : List S41) (ns : List S38) (ht : ts.length ≤ 1000000000000) (hn : ns.length ≤ 4096) (hb : toks ts ≤ 1048576) (x6 : ByteArray) (h6 : x6.data.toList = txT ts) (he : elN ns = elT ts) : ∀ d i (x9 : ByteArray), i + d = ts.length → x9.data.toList = txT (ts.take i) →
    Ev (fun k => stolelaw7_TreeShapes.l1 k ts ns x6 x9 (elT (ts.take i) : Int) 0 (i : Int)) true := by
  intro d
  induction d with
  | zero =>
    intro i x9 hi h9
    refine Ev.step (f := fun k => _) (fun k => by rw [stolelaw7_TreeShapes.l1]) ?_
    refine Ev.neg (by omega) ?_
    have e : ts.take i = ts := List.take_of_length_le (by omega)
    rw [e] at h9 ⊢
    have := l2_ev ns hn x6 x9 (by rw [list_eq, list_eq, h6, h9]) (elT ts : Int) (by rw [he]) ns.length 0 (by omega)
    exact this
  | succ d ih =>
    intro i x9 hi h9
    have hel := elT_le ts i
    have hlt : i < ts.length := by omega
    have hE := elT_take ts i hlt
    have hX := txT_take ts i hlt
    have hl := txT_len ts (i + 1)
    have hl2 := txT_toks ts
    obtain ⟨t, het⟩ : ∃ t, rd_T41 ts (i : Int) = t := ⟨_, rfl⟩
    rw [het] at hE hX
    refine Ev.step (f := fun k => _) (fun k => by rw [stolelaw7_TreeShapes.l1]) ?_
    refine Ev.pos (by omega) (Ev.pos (by omega) ?_)
    rw [het]
    by_cases c : t.f0 = 0
    · rw [if_neg (by omega), Nat.add_zero] at hE
      rw [if_pos c] at hX
      have hs9 : x9.size = (txT (ts.take i)).length := by rw [← h9]; rfl
      have hst : t.f2.data.toList.length = t.f2.size := rfl
      have hsum := congrArg List.length hX
      rw [List.length_append] at hsum
      refine Ev.pos c (Ev.pos (by omega) (Ev.neg (by omega) ?_))
      rw [wrap_next (n := 2000000000000) (by omega) (by decide)]
      have h := ih (i + 1) (x9 ++ t.f2) (by omega) (by rw [data_append, h9, hX])
      rw [hE] at h
      exact h
    · rw [if_neg c, List.append_nil] at hX
      have h := ih (i + 1) x9 (by omega) (by rw [h9, hX])
      rw [hE] at h
      refine Ev.neg c ?_
      by_cases c1 : t.f0 = 1
      · rw [if_pos c1] at h
        refine Ev.pos c1 ?_
        rw [wrap_next (n := 2000000000000) (by omega) (by decide), wrap_next (n := 2000000000000) (by omega) (by decide)]
        exact h
      · rw [if_neg c1, Nat.add_zero] at h
        refine Ev.neg c1 ?_
        rw [wrap_next (n := 2000000000000) (by omega) (by decide)]
        exact h
set_option maxHeartbeats 4000000 in
theorem l0_ev (ts : List S41) (ns : List S38) (op : List Int) (D : Nat → Nat) (hS : Sh ns op D) (ht : ts.length ≤ 1000000000000) (hn : ns.length ≤ 4096) (hb : toks ts ≤ 1048576) (hx : txN ns = txT ts) (he : elN ns = elT ts) :
    ∀ d i (x5 : List Int) (x6 : ByteArray), 1 ≤ i → i + d = ns.length → x5.length = ns.length → (∀ j, j < i → x5.getD j 0 = (D j : Int)) → x6.data.toList = txN (ns.take i) →
    Ev (fun k => stolelaw7_TreeShapes.l0 k ts ns x5 x6 (i : Int)) true := by
  intro d
  induction d with
  | zero =>
    intro i x5 x6 h1 hi h5 hd h6
    refine Ev.step (f := fun k => _) (fun k => by rw [stolelaw7_TreeShapes.l0]) ?_
    refine Ev.neg (by omega) ?_
    rw [List.take_of_length_le (by omega)] at h6
    exact l1_ev2 ts ns ht hn hb x6 (by rw [h6, hx]) he ts.length 0 ⟨#[]⟩ (by omega) rfl
  | succ d ih =>
    intro i x5 x6 h1 hi h5 hd h6
    have hlt : i < ns.length := by omega
    obtain ⟨a1, p, a2, a3, a4, a5, a6, a7⟩ := hS.node i h1 hlt
    have hD33 : ¬ ((D i : Int) > 33) := Int.not_lt.2 (Int.ofNat_le.2 a6)
    have hiN : (i : Int) < (ns.length : Int) := Int.ofNat_lt.2 hlt
    have hX := txN_take ns i hlt
    have hl := txN_len ns (i + 1)
    have hl2 := txT_toks ts
    rw [hx] at hl
    have hy : rd x5 (p : Int) = (D p : Int) := by simp only [rd, Int.toNat_natCast]; exact hd p a3
    have hw : wrap64 ((D p : Int) + 1) = (D i : Int) := by rw [wrap_next (n := 100) (by omega) (by decide), a5]
    have h5' : (x5.set i (D i : Int)).length = ns.length := by rw [List.length_set]; exact h5
    have hd' : ∀ j, j < i + 1 → (x5.set i (D i : Int)).getD j 0 = (D j : Int) := by
      intro j hj
      rw [List.getD_eq_getElem?_getD, List.getElem?_set]
      by_cases hji : i = j
      · subst hji; rw [if_pos rfl, if_pos (by omega)]; rfl
      · rw [if_neg hji, ← List.getD_eq_getElem?_getD]; exact hd j (by omega)
    have hyi : rd (x5.set i (D i : Int)) (i : Int) = (D i : Int) := by simp only [rd, Int.toNat_natCast]; exact hd' i (by omega)
    have key : Ev (fun k => stolelaw7_TreeShapes.j2 k ts ns x5 x6 (i : Int) (p : Int) false) true := by
      refine Ev.step (f := fun k => _) (fun k => by rw [stolelaw7_TreeShapes.j2]) ?_
      refine Ev.neg (by decide) (Ev.pos (by omega) (Ev.pos (by omega) (Ev.pos (by omega) (Ev.pos (by omega) ?_))))
      rw [hy, hw]
      simp only [Option.bind_some, Int.toNat_natCast]
      rw [hyi, rdN]
      have wm : wrap64 ((i : Int) - 1) = ((i - 1 : Nat) : Int) := by unfold wrap64; omega
      have j3 : Ev (fun k => stolelaw7_TreeShapes.j3 k ts ns (x5.set i (D i : Int)) x6 (i : Int) false) true := by
        refine Ev.step (f := fun k => _) (fun k => by rw [stolelaw7_TreeShapes.j3]) ?_
        refine Ev.neg (by decide) (Ev.pos (by omega) (Ev.pos (by omega) ?_))
        rw [rdN, wrap_next (n := 5000) (by omega) (by decide)]
        by_cases c : (nd ns i).f0 = 2
        · rw [if_pos c] at hX
          have hs6 : x6.size = (txN (ns.take i)).length := by rw [← h6]; rfl
          have hst : (nd ns i).f2.data.toList.length = (nd ns i).f2.size := rfl
          have hsum := congrArg List.length hX
          rw [List.length_append] at hsum
          refine Ev.pos c (Ev.pos (by omega) ?_)
          exact ih (i + 1) _ _ (by omega) (by omega) h5' hd' (by rw [data_append, h6, hX])
        · rw [if_neg c, List.append_nil] at hX
          refine Ev.neg c ?_
          exact ih (i + 1) _ _ (by omega) (by omega) h5' hd' (by rw [h6, hX])
      refine Ev.neg hD33 (Ev.pos hiN ?_)
      by_cases c : (nd ns i).f0 = 2
      · refine Ev.pos c ?_
        rw [wm, rdN]
        refine Ev.pos (by omega) (Ev.pos (by omega) ?_)
        by_cases c2 : (nd ns (i - 1)).f0 = 2
        · refine Ev.pos c2 ?_
          have : ((nd ns (i - 1)).f4 == (p : Int)) = false := by
            have : ¬ (nd ns (i - 1)).f4 = (p : Int) := fun e => a7 ⟨c, c2, e⟩
            simpa using this
          rw [this]; exact j3
        · exact Ev.neg c2 j3
      · exact Ev.neg c j3
    refine Ev.step (f := fun k => _) (fun k => by rw [stolelaw7_TreeShapes.l0]) ?_
    refine Ev.pos (by omega) (Ev.pos (by omega) ?_)
    rw [rdN, a2, rdN]
    have hb0 : ((nd ns i).f0 == 0) = false := by simpa using a1
    rw [hb0]
    refine Ev.neg (by omega) (Ev.neg (by omega) (Ev.pos (by omega) (Ev.pos (by omega) ?_)))
    by_cases c0 : (nd ns p).f0 = 0
    · exact Ev.pos c0 key
    · exact Ev.neg c0 (Ev.pos (by omega) key)
theorem TreeShapes (ts : List S41) (ht : ts.length ≤ 1000000000000) (hb : toks ts ≤ 1048576) : ∃ k, stolelaw7_TreeShapes.f k ts = some true := by
  have hT : tree_Build.f ts = some (buildF ts) := by unfold tree_Build.f; rw [if_pos (by omega)]
  have hE : Ev (fun k => stolelaw7_TreeShapes.f k ts) true := by
    unfold stolelaw7_TreeShapes.f
    refine Ev.bindC awakeS (Ev.pos rfl (Ev.bindC hT (Ev.bindC (s := (buildF ts).2) rfl ?_)))
    obtain ⟨a1, a2⟩ | ⟨a1, ⟨op, D, hS⟩, a3, a4, a5⟩ := buildF_shape ts
    · refine Ev.neg a1 (Ev.ofSome ?_)
      rw [a2]; rfl
    · obtain ⟨ns, hns⟩ : ∃ ns, (buildF ts).1 = ns := ⟨_, rfl⟩
      rw [hns] at hS a3 a4 a5 ⊢
      have hne := hS.ne
      refine Ev.pos a1 (Ev.neg (by omega) (Ev.pos (by omega) ?_))
      have r0 : (rd_T38 ns 0).f0 = 0 := hS.r0
      have r1 : (rd_T38 ns 0).f4 = -1 := hS.r1
      refine Ev.pos r0 ?_
      rw [r1]
      refine Ev.step (f := fun k => _) (fun k => by rw [stolelaw7_TreeShapes.j0]) ?_
      refine Ev.neg (by decide) (Ev.pos (by omega) (Ev.pos (by omega) ?_))
      rw [Int.toNat_natCast]
      refine l0_ev ts ns op D hS ht a3 hb a4 a5 (ns.length - 1) 1 _ _ (Nat.le_refl _) (by omega) (by simp) ?_ ?_
      · intro j hj
        obtain rfl : j = 0 := by omega
        rw [hS.d0, List.getD_eq_getElem?_getD, List.getElem?_replicate, if_pos (by omega)]; rfl
      · cases ns with
        | nil => simp at hne
        | cons x l =>
          have : x.f0 = 0 := hS.r0
          show [] = txN [x]
          unfold txN
          simp [this]
  obtain ⟨n, hn⟩ := hE
  exact ⟨n, hn n (Nat.le_refl _)⟩
end Go.Proofs.Ytkhgnaakcaghjaa.Pure
