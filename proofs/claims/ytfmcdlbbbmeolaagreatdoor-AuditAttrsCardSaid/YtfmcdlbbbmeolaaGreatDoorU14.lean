/- A tree's skeleton, plain: it hangs on the tokens that are no texts; the nodes that Build makes may be. The machine of lists: which tokens come that are no texts does not hang on the text ahead of the page. tok's states on the way: just the parts that a state has; no name is empty. Each token that comes of a page may be. page.plain, page.may: walked. page.Skeleton: walked. -/
import Derived.Test.YtfmcdlbbbmeolaaGreatDoorU0
import Derived.Test.YtfmcdlbbbmeolaaGreatDoorU13
import Derived.Test.YtfmcdlbbbmeolaaGreatDoorU12
import Derived.Deep.QuietTactic
import Derived.Outline
import Derived.Lib.AppendIntMem
section
namespace Go.Proofs.YtfmcdlbbbmeolaaGreatDoor.Tr
open Go.RowKit Go.Proofs.YtfmcdlbbbmeolaaGreatDoor.XK Go.Proofs.YtfmcdlbbbmeolaaGreatDoor.Base Go.Proofs.YtfmcdlbbbmeolaaGreatDoorW.PrintWords Go.Proofs.YtfmcdlbbbmeolaaGreatDoorW.PrintLast Go.Proofs.YtfmcdlbbbmeolaaGreatDoorW.PrintMore
set_option linter.unusedVariables false
set_option linter.unusedSimpArgs false
def lineL (it : Int → List UInt8) (p k : Int) (nm tx : ByteArray) (ats : List S39) : List UInt8 :=
  it p ++ (if k = 1 then [32, 101, 32] ++ nm.data.toList else [32, 99, 32] ++ tx.data.toList) ++ ats.flatMap (fun a => 32 :: a.f0.data.toList) ++ [10]
structure SkS where
  nums : List Int
  next : Int
  out : List UInt8
def skStep (it : Int → List UInt8) (s : SkS) (x : S69) : SkS :=
  if x.f0 = 2 then ⟨s.nums ++ [0], s.next, s.out⟩ else ⟨s.nums ++ [s.next], s.next + 1, s.out ++ lineL it (s.nums.getD x.f4.toNat 0) x.f0 x.f1 x.f2 x.f3⟩
def skS (it : Int → List UInt8) (ns : List S69) : SkS := ns.tail.foldl (skStep it) ⟨[0], 1, []⟩
structure SkT where
  stk : List (Int × ByteArray)
  next : Int
  out : List UInt8
def popAt (stk : List (Int × ByteArray)) (nm : ByteArray) : Nat → List (Int × ByteArray)
  | 0 => stk
  | i + 1 => if (stk.getD (i + 1) (0, ⟨#[]⟩)).2.toList = nm.toList then stk.take (i + 1) else popAt stk nm i
def topOf (stk : List (Int × ByteArray)) : Int := (stk.getLast?.getD (0, ⟨#[]⟩)).1
def tkStep (it : Int → List UInt8) (s : SkT) (t : S41) : SkT :=
  if t.f0 = 0 then s
  else if t.f0 = 3 then ⟨s.stk, s.next + 1, s.out ++ lineL it (topOf s.stk) 3 ⟨#[]⟩ t.f2 []⟩
  else if t.f0 = 1 then ⟨if kindOf t.f1 ≠ 1 ∧ s.stk.length ≤ 32 then s.stk ++ [(s.next, t.f1)] else s.stk, s.next + 1, s.out ++ lineL it (topOf s.stk) 1 t.f1 ⟨#[]⟩ t.f3⟩
  else ⟨popAt s.stk t.f1 (s.stk.length - 1), s.next, s.out⟩
def tkS (it : Int → List UInt8) (ts : List S41) : SkT := ts.foldl (tkStep it) ⟨[(0, ⟨#[]⟩)], 1, []⟩
theorem skS_snoc (it : Int → List UInt8) (ns : List S69) (x : S69) (h : ns ≠ []) : skS it (ns ++ [x]) = skStep it (skS it ns) x := by
  unfold skS
  cases ns with
  | nil => exact absurd rfl h
  | cons a l => show (l ++ [x]).foldl _ _ = _; rw [List.foldl_append]; rfl
theorem skStep_len (it : Int → List UInt8) (s : SkS) (x : S69) : (skStep it s x).nums.length = s.nums.length + 1 := by
  unfold skStep; split <;> simp
theorem skStep_get (it : Int → List UInt8) (s : SkS) (x : S69) (j : Nat) (h : j < s.nums.length) : (skStep it s x).nums.getD j 0 = s.nums.getD j 0 := by
  unfold skStep
  split <;> (show List.getD (s.nums ++ _) j 0 = _; rw [List.getD_eq_getElem?_getD, List.getElem?_append_left h, ← List.getD_eq_getElem?_getD])
theorem skS_len (it : Int → List UInt8) : ∀ ns : List S69, ns ≠ [] → (skS it ns).nums.length = ns.length := by
  intro ns h
  cases ns with
  | nil => exact absurd rfl h
  | cons a l =>
    have key : ∀ (l : List S69) (s : SkS), (l.foldl (skStep it) s).nums.length = s.nums.length + l.length := by
      intro l
      induction l with
      | nil => intro s; rfl
      | cons x l ih => intro s; rw [List.foldl_cons, ih, skStep_len, List.length_cons]; omega
    show (l.foldl (skStep it) ⟨[0], 1, []⟩).nums.length = _
    rw [key]; simp; omega
def pairOf (ns : List S69) (nums : List Int) (x : Int) : Int × ByteArray := (nums.getD x.toNat 0, (nd ns x.toNat).f1)
structure SkRel (it : Int → List UInt8) (ns : List S69) (op : List Int) (s : SkT) : Prop where
  next : s.next = (skS it ns).next
  out : s.out = (skS it ns).out
  stk : s.stk = op.map (pairOf ns (skS it ns).nums)
theorem getLast_map {α β : Type} (f : α → β) (l : List α) : (l.map f).getLast? = l.getLast?.map f := by simp
theorem top_rel {it : Int → List UInt8} {ns : List S69} {op : List Int} {s : SkT} {D : Nat → Nat} (h : SkRel it ns op s) (hS : Sh ns op D) : topOf s.stk = (skS it ns).nums.getD (lastOf op).toNat 0 := by
  unfold topOf lastOf
  rw [h.stk, getLast_map]
  cases hq : op.getLast? with
  | none => exact absurd (List.getLast?_eq_none_iff.1 hq) hS.op0
  | some x => rfl
theorem map_same {it : Int → List UInt8} {ns ns' : List S69} {op : List Int} {D : Nat → Nat} (hS : Sh ns op D)
    (h1 : ∀ j, j < ns.length → (nd ns' j).f1 = (nd ns j).f1) (h2 : ∀ j, j < ns.length → (skS it ns').nums.getD j 0 = (skS it ns).nums.getD j 0) : op.map (pairOf ns' (skS it ns').nums) = op.map (pairOf ns (skS it ns).nums) := by
  apply List.map_congr_left
  intro x hx
  obtain ⟨j, hj, e⟩ := List.getElem_of_mem hx
  obtain ⟨q, rfl, hq, _⟩ := hS.opn j x (by rw [List.getElem?_eq_getElem hj, e])
  unfold pairOf
  rw [Int.toNat_natCast, h1 q hq, h2 q hq]
theorem pop_rel (ns : List S69) (op : List Int) (nums : List Int) (nm : ByteArray) (h0 : ∀ x ∈ op, 0 ≤ x) : ∀ i, i < op.length → popAt (op.map (pairOf ns nums)) nm i = (endAt ns op nm i).map (pairOf ns nums)
  | 0, _ => rfl
  | i + 1, h => by
    rw [popAt, endAt]
    have e : ((op.map (pairOf ns nums)).getD (i + 1) (0, ⟨#[]⟩)).2 = nameAt ns op (i + 1) := by
      rw [List.getD_eq_getElem?_getD, List.getElem?_map, List.getElem?_eq_getElem h]
      unfold nameAt
      rw [rd_get op (i + 1) h]
      rfl
    rw [e]
    split
    · rw [List.map_take]
    · exact pop_rel ns op nums nm h0 i (by omega)
theorem text_rel {it : Int → List UInt8} {ns : List S69} {op : List Int} {s : SkT} {D : Nat → Nat} (h : SkRel it ns op s) (hS : Sh ns op D) (tx : ByteArray) : SkRel it (textF ns op tx) op s := by
  have hne : ns ≠ [] := fun e => by have := hS.ne; rw [e] at this; simp at this
  obtain ⟨l, hl⟩ : ∃ l, ns.getLast? = some l := ⟨_, List.getLast?_eq_some_getLast hne⟩
  unfold textF
  rw [hl]
  simp only
  by_cases c1 : l.f0 = 2 ∧ l.f4 = lastOf op
  · rw [if_pos c1]
    obtain ⟨e1, e2⟩ := last_set ns l ⟨l.f0, l.f1, l.f2 ++ tx, l.f3, l.f4⟩ hl
    obtain ⟨dl, hdl⟩ : ∃ dl, ns.dropLast = dl := ⟨_, rfl⟩
    rw [hdl] at e1 e2
    have hd : dl ≠ [] := by
      rintro rfl
      have h0 := hS.r0
      rw [e1] at h0
      have : (nd ([] ++ [l]) 0).f0 = l.f0 := rfl
      rw [this] at h0; omega
    rw [e2]
    have es : skS it (dl ++ [⟨l.f0, l.f1, l.f2 ++ tx, l.f3, l.f4⟩]) = skS it ns := by
      rw [e1, skS_snoc it _ _ hd, skS_snoc it _ _ hd]
      unfold skStep
      simp [c1.1]
    refine ⟨by rw [es]; exact h.next, by rw [es]; exact h.out, ?_⟩
    rw [map_same (it := it) hS ?_ (fun j _ => by rw [es])]
    · exact h.stk
    · intro j hj
      rw [e1] at hj ⊢
      rw [List.length_append, List.length_singleton] at hj
      by_cases hjl : j < dl.length
      · rw [nd_left _ _ _ hjl, nd_left _ _ _ hjl]
      · obtain rfl : j = dl.length := by omega
        rw [nd_last, nd_last]
  · rw [if_neg c1]
    split
    · exact h
    · have es := skS_snoc it ns ⟨2, ⟨#[]⟩, tx, [], lastOf op⟩ hne
      have el := skS_len it ns hne
      refine ⟨?_, ?_, ?_⟩
      · rw [es]; exact h.next
      · rw [es]; exact h.out
      · rw [map_same (it := it) hS (fun j hj => by rw [nd_left _ _ _ hj]) (fun j hj => by rw [es]; exact skStep_get it _ _ j (by omega))]
        exact h.stk
theorem step_rel {it : Int → List UInt8} {ns : List S69} {op : List Int} {s : SkT} {D : Nat → Nat} (h : SkRel it ns op s) (hS : Sh ns op D) (t : S41) : SkRel it (stepF ns op t).1 (stepF ns op t).2 (tkStep it s t) := by
  have hne : ns ≠ [] := fun e => by have := hS.ne; rw [e] at this; simp at this
  have el := skS_len it ns hne
  have ht := top_rel h hS
  unfold stepF tkStep
  by_cases k0 : t.f0 = 0
  · rw [if_pos k0, if_pos k0]; exact text_rel h hS t.f2
  rw [if_neg k0, if_neg k0]
  by_cases k3 : t.f0 = 3
  · rw [if_pos k3, if_pos k3]
    have es := skS_snoc it ns ⟨3, ⟨#[]⟩, t.f2, [], lastOf op⟩ hne
    refine ⟨?_, ?_, ?_⟩
    · show s.next + 1 = (skS it (ns ++ [⟨3, ⟨#[]⟩, t.f2, [], lastOf op⟩])).next
      rw [es, h.next]; rfl
    · show s.out ++ _ = (skS it (ns ++ [⟨3, ⟨#[]⟩, t.f2, [], lastOf op⟩])).out
      rw [es, h.out, ht]; rfl
    · show s.stk = op.map (pairOf (ns ++ [⟨3, ⟨#[]⟩, t.f2, [], lastOf op⟩]) _)
      rw [map_same (it := it) hS (fun j hj => by rw [nd_left _ _ _ hj]) (fun j hj => by rw [es]; exact skStep_get it _ _ j (by omega))]
      exact h.stk
  rw [if_neg k3, if_neg k3]
  by_cases k1 : t.f0 = 1
  · rw [if_pos k1, if_pos k1]
    have es := skS_snoc it ns ⟨1, t.f1, ⟨#[]⟩, t.f3, lastOf op⟩ hne
    have em : op.map (pairOf (ns ++ [⟨1, t.f1, ⟨#[]⟩, t.f3, lastOf op⟩]) (skS it (ns ++ [⟨1, t.f1, ⟨#[]⟩, t.f3, lastOf op⟩])).nums) = s.stk := by
      rw [map_same (it := it) hS (fun j hj => by rw [nd_left _ _ _ hj]) (fun j hj => by rw [es]; exact skStep_get it _ _ j (by omega))]
      exact h.stk.symm
    refine ⟨?_, ?_, ?_⟩
    · show s.next + 1 = (skS it (ns ++ [⟨1, t.f1, ⟨#[]⟩, t.f3, lastOf op⟩])).next
      rw [es, h.next]; rfl
    · show s.out ++ _ = (skS it (ns ++ [⟨1, t.f1, ⟨#[]⟩, t.f3, lastOf op⟩])).out
      rw [es, h.out, ht]; rfl
    · show (if kindOf t.f1 ≠ 1 ∧ s.stk.length ≤ 32 then s.stk ++ [(s.next, t.f1)] else s.stk) = (startOp ns op t.f1).map (pairOf (ns ++ [⟨1, t.f1, ⟨#[]⟩, t.f3, lastOf op⟩]) (skS it (ns ++ [⟨1, t.f1, ⟨#[]⟩, t.f3, lastOf op⟩])).nums)
      have hsl : s.stk.length = op.length := by rw [h.stk, List.length_map]
      unfold startOp
      rw [hsl]
      split
      · rw [List.map_append, em]
        congr 1
        show [(s.next, t.f1)] = [pairOf _ _ _]
        congr 1
        unfold pairOf
        rw [Int.toNat_natCast, nd_last, es]
        unfold skStep
        rw [if_neg (show ¬ ((1 : Int) = 2) by decide)]
        simp only []
        rw [List.getD_eq_getElem?_getD, List.getElem?_append_right (by omega), el, Nat.sub_self, h.next]
        rfl
      · exact em.symm
  rw [if_neg k1, if_neg k1]
  refine ⟨h.next, h.out, ?_⟩
  show popAt s.stk t.f1 (s.stk.length - 1) = (endAt ns op t.f1 (op.length - 1)).map (pairOf ns (skS it ns).nums)
  have hl := List.length_pos_iff.2 hS.op0
  rw [h.stk, List.length_map]
  refine pop_rel ns op _ t.f1 (fun x hx => ?_) _ (by omega)
  obtain ⟨j, hj, e⟩ := List.getElem_of_mem hx
  obtain ⟨q, rfl, _⟩ := hS.opn j x (by rw [List.getElem?_eq_getElem hj, e])
  omega
theorem root_rel (it : Int → List UInt8) : SkRel it [root] [0] ⟨[(0, ⟨#[]⟩)], 1, []⟩ := ⟨rfl, rfl, rfl⟩
theorem run_rel {it : Int → List UInt8} (ts : List S41) : ∀ (ns : List S69) (op : List Int) (s : SkT) (D : Nat → Nat) (r : List S69), SkRel it ns op s → Sh ns op D → runF ts ns op = some r → (skS it r).out = (ts.foldl (tkStep it) s).out := by
  induction ts with
  | nil => intro ns op s D r h hS hr; obtain rfl := Option.some.inj hr; exact h.out.symm
  | cons t ts ih =>
    intro ns op s D r h hS hr
    rw [runF] at hr
    split at hr
    · cases hr
    · obtain ⟨⟨D', h1⟩, _⟩ := stepF_shape hS t
      exact ih _ _ _ D' r (step_rel h hS t) h1 hr
theorem build_skel (it : Int → List UInt8) (ts : List S41) (h : (buildF ts).2 = 0) : (skS it (buildF ts).1).out = (tkS it ts).out := by
  unfold buildF at h ⊢
  split at h
  · rename_i hm
    rw [if_pos hm]
    cases hr : runF ts [root] [0] with
    | none => rw [hr] at h; exact absurd h (by decide)
    | some r => exact run_rel ts _ _ _ _ r (root_rel it) sh_root hr
  · exact absurd h (by decide)
def noText (ts : List S41) : List S41 := ts.filter fun t => decide (t.f0 ≠ 0)
theorem tk_noText (it : Int → List UInt8) (ts : List S41) : ∀ s : SkT, (noText ts).foldl (tkStep it) s = ts.foldl (tkStep it) s := by
  induction ts with
  | nil => intro s; rfl
  | cons t ts ih =>
    intro s
    unfold noText
    rw [List.filter_cons]
    by_cases h : t.f0 = 0
    · rw [if_neg (by simp [h]), List.foldl_cons, show tkStep it s t = s by unfold tkStep; rw [if_pos h]]; exact ih s
    · rw [if_pos (by simp [h]), List.foldl_cons, List.foldl_cons]; exact ih _
theorem tkS_noText (it : Int → List UInt8) (a b : List S41) (h : noText a = noText b) : tkS it a = tkS it b := by
  unfold tkS; rw [← tk_noText it a, ← tk_noText it b, h]
def plainB (x : S69) : Bool :=
  if x.f0 = 0 then x.f1.toList.isEmpty && (x.f2.toList.isEmpty && decide (x.f3.length = 0))
  else if x.f0 = 1 then x.f2.toList.isEmpty
  else if x.f0 = 2 then x.f1.toList.isEmpty && decide (x.f3.length = 0)
  else if x.f0 = 3 then x.f1.toList.isEmpty && decide (x.f3.length = 0)
  else false
def okB (ns : List S69) (i : Nat) : Bool :=
  plainB (nd ns i) && (decide ((nd ns i).f0 = 0) == decide (i = 0)) && (if i = 0 then decide ((nd ns 0).f4 = -1) else decide (0 ≤ (nd ns i).f4) && (decide ((nd ns i).f4 < (i : Int)) && decide ((nd ns (nd ns i).f4.toNat).f0 ≤ 1)))
def mayNs (ns : List S69) : Bool := decide (0 < ns.length) && (List.range ns.length).all (okB ns)
theorem step_plain {ns : List S69} {op : List Int} (t : S41) (h : ∀ x ∈ ns, plainB x = true) : ∀ x ∈ (stepF ns op t).1, plainB x = true := by
  intro x hx
  unfold stepF at hx
  split at hx
  · simp only at hx
    unfold textF at hx
    split at hx
    · rename_i l hl
      split at hx
      · rename_i c
        rcases List.mem_or_eq_of_mem_set hx with hx | rfl
        · exact h x hx
        · have := h l (List.mem_of_getLast? hl)
          unfold plainB at this ⊢
          simp only [c.1] at this ⊢
          exact this
      · split at hx
        · exact h x hx
        · rcases List.mem_append.1 hx with hx | hx
          · exact h x hx
          · simp only [List.mem_singleton] at hx; subst hx; unfold plainB; simp [ByteArray.toList_eq]
    · exact h x hx
  split at hx
  · rcases List.mem_append.1 hx with hx | hx
    · exact h x hx
    · simp only [List.mem_singleton] at hx; subst hx; unfold plainB; simp [ByteArray.toList_eq]
  split at hx
  · rcases List.mem_append.1 hx with hx | hx
    · exact h x hx
    · simp only [List.mem_singleton] at hx; subst hx; unfold plainB; simp [ByteArray.toList_eq]
  · exact h x hx
theorem run_plain (ts : List S41) : ∀ (ns : List S69) (op : List Int) (r : List S69), (∀ x ∈ ns, plainB x = true) → runF ts ns op = some r → ∀ x ∈ r, plainB x = true := by
  induction ts with
  | nil => intro ns op r h hr; obtain rfl := Option.some.inj hr; exact h
  | cons t ts ih =>
    intro ns op r h hr
    rw [runF] at hr
    split at hr
    · cases hr
    · exact ih _ _ r (step_plain t h) hr
theorem may_of {ns : List S69} {op : List Int} {D : Nat → Nat} (hS : Sh ns op D) (hp : ∀ x ∈ ns, plainB x = true) : mayNs ns = true := by
  unfold mayNs
  have h0 := hS.ne
  rw [decide_eq_true (by omega), Bool.true_and, List.all_eq_true]
  intro i hi
  rw [List.mem_range] at hi
  have hm : nd ns i ∈ ns := by unfold nd; rw [List.getD_eq_getElem?_getD, List.getElem?_eq_getElem hi]; exact List.getElem_mem hi
  unfold okB
  rw [hp _ hm, Bool.true_and]
  by_cases hz : i = 0
  · subst hz
    rw [if_pos rfl, hS.r0, hS.r1]; rfl
  · obtain ⟨a1, p, a2, a3, a4, _⟩ := hS.node i (by omega) hi
    rw [if_neg hz, a2, Int.toNat_natCast]
    simp only [Bool.and_eq_true, decide_eq_true_eq, beq_iff_eq]
    refine ⟨?_, by omega, by omega, ?_⟩
    · rw [decide_eq_false a1, decide_eq_false hz]
    · rcases a4 with e | e <;> (rw [e]; decide)
theorem build_may (ts : List S41) (h : (buildF ts).2 = 0) : mayNs (buildF ts).1 = true := by
  unfold buildF at h ⊢
  split at h
  · rename_i hm
    rw [if_pos hm]
    cases hr : runF ts [root] [0] with
    | none => rw [hr] at h; exact absurd h (by decide)
    | some r =>
      obtain ⟨⟨op', D', h1⟩, _⟩ := runF_shape ts _ _ _ r sh_root (by decide) hr
      exact may_of h1 (run_plain ts _ _ r (fun x hx => by simp only [List.mem_singleton] at hx; subst hx; unfold plainB root; simp [ByteArray.toList_eq]) hr)
  · exact absurd h (by decide)
theorem run_some (ts : List S41) : ∀ (ns : List S69) (op : List Int), ns.length + ts.length ≤ 4096 → ∃ r, runF ts ns op = some r := by
  induction ts with
  | nil => intro ns op _; exact ⟨ns, rfl⟩
  | cons t ts ih =>
    intro ns op h
    rw [List.length_cons] at h
    have := (stepF_len ns op t).2
    rw [runF, if_neg (by omega)]
    exact ih _ _ (by omega)
theorem build_ok (ts : List S41) (hm : ts.all mayB = true) (hl : ts.length ≤ 4095) : (buildF ts).2 = 0 := by
  obtain ⟨r, hr⟩ := run_some ts [root] [0] (by simp; omega)
  unfold buildF
  rw [if_pos hm, hr]; rfl
end Go.Proofs.YtfmcdlbbbmeolaaGreatDoor.Tr
end
section
namespace Go.Proofs.YtfmcdlbbbmeolaaGreatDoor.Tk
open Go.RowKit Go.Proofs.YtfmcdlbbbmeolaaGreatDoor.XK Go.Proofs.YtfmcdlbbbmeolaaGreatDoorW.PrintWords Go.Proofs.YtfmcdlbbbmeolaaGreatDoorW.PrintLast Go.Proofs.YtfmcdlbbbmeolaaGreatDoorW.PrintMore
open Go.Proofs.YtfmcdlbbbmeolaaGreatDoor.Ln (linesB linesL lines_none)
open Go.Proofs.YtfmcdlbbbmeolaaGreatDoor.Tr (noText)
set_option linter.unusedVariables false
set_option linter.unusedSimpArgs false
set_option maxRecDepth 100000
theorem noText_app (a b : List S41) : noText (a ++ b) = noText a ++ noText b := by unfold noText; rw [List.filter_append]
theorem noText_txt (h : ByteArray) (b : List UInt8) : noText (txtL h b) = [] := by cases b <;> rfl
structure Sim (m n : Mc) : Prop where
  rng : 0 ≤ m.st.pos ∧ m.st.pos ≤ 22
  st : n.st = m.st
  out : noText n.out = noText m.out
  held : n.held = m.held
  ats : n.ats = m.ats
  cur : n.cur = m.cur
  pnd : m.st.pos ≠ 0 → m.st.pos ≠ 19 → n.pnd = m.pnd
theorem sim_step {m n : Mc} (h : Sim m n) (c : UInt8) : Sim (stepM m c) (stepM n c) := by
  have t := step_tab m.st c.toNat h.rng.1 h.rng.2
  have e60 : c.toNat = 60 ↔ c = 60 := u8_eq c 60 (by decide)
  unfold stepM
  simp only [h.st]
  obtain ⟨nx, hnx⟩ : ∃ nx, stepS m.st c.toNat = nx := ⟨_, rfl⟩
  rw [hnx] at t ⊢
  by_cases c1 : c = 60 ∧ (nx.pos = 1 ∨ nx.pos = 20)
  · rw [if_pos c1, if_pos c1]
    exact ⟨t.rng, rfl, h.out, h.held, h.ats, h.cur, fun _ _ => rfl⟩
  rw [if_neg c1, if_neg c1]
  by_cases c2 : c = 62 ∧ endsB m.st = true
  · rw [if_pos c2, if_pos c2]
    refine ⟨t.rng, rfl, ?_, rfl, h.ats, h.cur, fun _ _ => rfl⟩
    show noText (n.out ++ txtL n.held n.buf ++ [tagL n.all m.st]) = noText (m.out ++ txtL m.held m.buf ++ [tagL m.all m.st])
    rw [noText_app, noText_app, noText_app, noText_app, noText_txt, noText_txt, h.out]
    unfold Mc.all
    rw [h.ats, h.cur]
  rw [if_neg c2, if_neg c2]
  by_cases c3 : c = 62 ∧ remarksB m.st = true
  · rw [if_pos c3, if_pos c3]
    have hp := rem_pos c3.2
    refine ⟨t.rng, rfl, ?_, h.held, h.ats, h.cur, fun _ _ => rfl⟩
    show noText (n.out ++ txtL n.held n.buf ++ [⟨3, ⟨#[]⟩, bts (comL m.st n.pnd), [], false⟩]) = noText (m.out ++ txtL m.held m.buf ++ [⟨3, ⟨#[]⟩, bts (comL m.st m.pnd), [], false⟩])
    rw [noText_app, noText_app, noText_app, noText_app, noText_txt, noText_txt, h.out, h.pnd (by omega) (by omega)]
  rw [if_neg c3, if_neg c3]
  have ha : attM n nx c = attM m nx c := by unfold attM; rw [h.st, h.ats, h.cur]
  rw [ha]
  refine ⟨t.rng, rfl, h.out, h.held, rfl, rfl, fun h1 h2 => ?_⟩
  simp only at h1 h2
  show n.pnd ++ [c] = m.pnd ++ [c]
  by_cases hs : m.st.pos = 0 ∨ m.st.pos = 19
  · rcases t.dat hs with hd | hd
    · omega
    · exact absurd ⟨e60.1 hd.1, hd.2⟩ c1
  · rw [h.pnd (by omega) (by omega)]
theorem sim_run (l : List UInt8) : ∀ {m n : Mc}, Sim m n → Sim (runM m l) (runM n l) := by
  induction l with
  | nil => intro m n h; exact h
  | cons c l ih => intro m n h; rw [run_cons, run_cons]; exact ih (sim_step h c)
theorem sim_end {m n : Mc} (h : Sim m n) : noText (endM n) = noText (endM m) := by
  unfold endM
  rw [noText_app, noText_app, noText_txt, noText_txt, h.out]
theorem lines_ahead : ∀ (a s : List UInt8), (∀ b ∈ a, b ≠ 60) → ∃ A, (∀ b ∈ A, b ≠ 60) ∧ linesL (a ++ s) = A ++ linesL s
  | [], s, _ => ⟨[], by simp, rfl⟩
  | [c], [], h => ⟨linesL [c], by
      intro b hb; unfold linesL at hb; simp only [List.mem_singleton] at hb; subst hb; split
      · decide
      · exact h c (by simp), by show linesL [c] = linesL [c] ++ linesL []; rw [show linesL [] = [] from rfl, List.append_nil]⟩
  | [c], d :: s, h => by
    by_cases h1 : c = 13 ∧ d = 10
    · refine ⟨[], by simp, ?_⟩
      obtain ⟨rfl, rfl⟩ := h1
      show linesL (13 :: 10 :: s) = linesL (10 :: s)
      rw [linesL, if_pos ⟨rfl, rfl⟩]
      cases s with
      | nil => rfl
      | cons e s => rw [linesL, if_neg (fun q => absurd q.1 (by decide)), if_neg (by decide)]
    · refine ⟨[if c = 13 then 10 else c], ?_, ?_⟩
      · intro b hb; simp only [List.mem_singleton] at hb; subst hb; split
        · decide
        · exact h c (by simp)
      · show linesL (c :: d :: s) = _
        rw [linesL, if_neg h1]; rfl
  | c :: d :: a, s, h => by
    by_cases h1 : c = 13 ∧ d = 10
    · obtain ⟨A, h2, h3⟩ := lines_ahead a s (fun b hb => h b (by simp [hb]))
      refine ⟨10 :: A, ?_, ?_⟩
      · intro b hb; rcases List.mem_cons.1 hb with rfl | hb
        · decide
        · exact h2 b hb
      · show linesL (c :: d :: (a ++ s)) = _
        rw [linesL, if_pos h1, h3]; rfl
    · obtain ⟨A, h2, h3⟩ := lines_ahead (d :: a) s (fun b hb => h b (by simp [List.mem_cons.1 hb]))
      refine ⟨(if c = 13 then 10 else c) :: A, ?_, ?_⟩
      · intro b hb; rcases List.mem_cons.1 hb with rfl | hb
        · split
          · decide
          · exact h c (by simp)
        · exact h2 b hb
      · show linesL (c :: d :: (a ++ s)) = _
        rw [linesL, if_neg h1]
        show _ :: linesL (d :: a ++ s) = _
        rw [h3]; rfl
theorem ahead_noText (a s : List UInt8) (ha : ∀ b ∈ a, b ≠ 60) (h1 : (a ++ s).length ≤ 65536) : noText (tokensM (a ++ s)).1 = noText (tokensM s).1 := by
  have h2 : s.length ≤ 65536 := by rw [List.length_append] at h1; omega
  obtain ⟨A, h3, h4⟩ := lines_ahead a s ha
  unfold tokensM
  rw [if_neg (by omega), if_neg (by omega), h4, run_app]
  simp only
  refine sim_end (sim_run _ ?_)
  rw [run_data m0 A rfl h3]
  exact ⟨by decide, rfl, rfl, rfl, rfl, rfl, fun h => absurd rfl h⟩
end Go.Proofs.YtfmcdlbbbmeolaaGreatDoor.Tk
end
section
namespace Go.Proofs.YtfmcdlbbbmeolaaGreatDoor.Tk
open Go.RowKit Go.Proofs.YtfmcdlbbbmeolaaGreatDoor.XK Go.Proofs.YtfmcdlbbbmeolaaGreatDoorW.PrintWords Go.Proofs.YtfmcdlbbbmeolaaGreatDoorW.PrintLast Go.Proofs.YtfmcdlbbbmeolaaGreatDoorW.PrintMore
open Go.Proofs.YtfmcdlbbbmeolaaGreatDoor.Refs (lowN decL)
open Go.Proofs.YtfmcdlbbbmeolaaGreatDoor.Ln (linesB linesL)
set_option linter.unusedVariables false
set_option linter.unusedSimpArgs false
set_option maxRecDepth 100000
structure Cl (s : St) : Prop where
  bare : s.pos < 3 ∨ (13 ≤ s.pos ∧ s.pos ≤ 18) → s = atS s.pos
  tag : 3 ≤ s.pos → s.pos ≤ 12 → s.held = ⟨#[]⟩ ∧ s.read = 0 ∧ 0 < s.name.size
  noat : (3 ≤ s.pos ∧ s.pos ≤ 4) ∨ (11 ≤ s.pos ∧ s.pos ≤ 12) → s.attr = ⟨#[]⟩
  attr : 5 ≤ s.pos → s.pos ≤ 10 → 0 < s.attr.size
  held : 19 ≤ s.pos → s.name = ⟨#[]⟩ ∧ s.fin = false ∧ s.attr = ⟨#[]⟩ ∧ 0 < s.held.size ∧ 0 ≤ s.read ∧ s.read ≤ s.held.size
  noread : 19 ≤ s.pos → s.pos ≤ 21 → s.read = 0
theorem more_pos (nm : ByteArray) (c : Nat) : 0 < (moreS nm c).size := by
  unfold moreS
  split
  · omega
  · rw [ByteArray.size_append]; show 0 < nm.size + 1; omega
section
variable {s : St}
theorem cl_bare (k : Int) (h : k < 3 ∨ (13 ≤ k ∧ k ≤ 18)) : Cl (atS k) :=
  ⟨fun _ => rfl, fun h1 h2 => by simp only [atS] at h1 h2; omega, fun h1 => by simp only [atS] at h1; omega, fun h1 h2 => by simp only [atS] at h1 h2; omega, fun h1 => by simp only [atS] at h1; omega, fun h1 h2 => by simp only [atS] at h1 h2; omega⟩
theorem cl_tag (k : Int) (h : (3 ≤ k ∧ k ≤ 4) ∨ (11 ≤ k ∧ k ≤ 12)) (nm : ByteArray) (f : Bool) (hn : 0 < nm.size) : Cl ⟨k, nm, f, ⟨#[]⟩, ⟨#[]⟩, 0⟩ :=
  ⟨fun h1 => by simp only at h1; omega, fun _ _ => ⟨rfl, rfl, hn⟩, fun _ => rfl, fun h1 h2 => by simp only at h1 h2; omega, fun h1 => by simp only at h1; omega, fun h1 h2 => by simp only at h1 h2; omega⟩
theorem cl_attr (k : Int) (h : 5 ≤ k ∧ k ≤ 10) (nm : ByteArray) (f : Bool) (a : ByteArray) (hn : 0 < nm.size) (ha : 0 < a.size) : Cl ⟨k, nm, f, a, ⟨#[]⟩, 0⟩ :=
  ⟨fun h1 => by simp only at h1; omega, fun _ _ => ⟨rfl, rfl, hn⟩, fun h1 => by simp only at h1; omega, fun _ _ => ha, fun h1 => by simp only at h1; omega, fun h1 h2 => by simp only at h1 h2; omega⟩
theorem cl_held (k : Int) (h : 19 ≤ k ∧ k ≤ 21) (hd : ByteArray) (hn : 0 < hd.size) : Cl ⟨k, ⟨#[]⟩, false, ⟨#[]⟩, hd, 0⟩ :=
  ⟨fun h1 => by simp only at h1; omega, fun h1 h2 => by simp only at h1 h2; omega, fun h1 => by simp only at h1; omega, fun h1 h2 => by simp only at h1 h2; omega, fun _ => ⟨rfl, rfl, rfl, hn, Int.le_refl 0, Int.natCast_nonneg _⟩, fun _ _ => rfl⟩
theorem cl_read (hd : ByteArray) (r : Int) (hn : 0 < hd.size) (hr : 0 ≤ r) (hr2 : r ≤ hd.size) : Cl ⟨22, ⟨#[]⟩, false, ⟨#[]⟩, hd, r⟩ :=
  ⟨fun h1 => by simp only at h1; omega, fun h1 h2 => by simp only at h1 h2; omega, fun h1 => by simp only at h1; omega, fun h1 h2 => by simp only at h1 h2; omega, fun _ => ⟨rfl, rfl, rfl, hn, hr, hr2⟩, fun h1 h2 => by simp only at h1 h2; omega⟩
theorem cl_closes (hn : 0 < s.name.size) : Cl (closesS s) := by
  rcases closes_cases s with e | e
  · rw [e]; exact cl_bare 0 (by decide)
  · rw [e]; exact cl_held 19 (by decide) _ hn
theorem cl_between {o : St} {c : Nat} {x : Int} (hx : x = 0 ∨ x = 4) (hb : betweenS s c x = some o) (hn : 0 < s.name.size) (h0 : x = 0 → blankN c = false) : Cl o := by
  unfold betweenS at hb
  split at hb
  · rename_i q
    obtain rfl := Option.some.inj hb
    rcases hx with rfl | rfl
    · rw [h0 rfl] at q; exact absurd q (by simp)
    · exact cl_tag 4 (by decide) _ _ hn
  split at hb
  · obtain rfl := Option.some.inj hb; exact cl_tag 12 (by decide) _ _ hn
  split at hb
  · obtain rfl := Option.some.inj hb; exact cl_closes hn
  · cases hb
theorem cl_data (c : Nat) : Cl (dataS c) := by
  unfold dataS; split
  · exact cl_bare 1 (by decide)
  · exact cl_bare 0 (by decide)
theorem cl_begins (c : Nat) (hn : 0 < s.name.size) : Cl (beginsS s c) := by
  unfold beginsS
  split
  · rename_i o hb; exact cl_between (.inr rfl) hb hn (fun h => by omega)
  · exact cl_attr 5 (by decide) _ _ _ hn (more_pos _ _)
theorem cl_names (c : Nat) (nm : ByteArray) (hn : 0 < s.name.size) (ha : 0 < s.attr.size) : Cl (namesS s c nm) := by
  unfold namesS
  split
  · exact cl_attr 6 (by decide) _ _ _ hn ha
  rename_i q
  split
  · exact cl_attr 7 (by decide) _ _ _ hn ha
  split
  · rename_i o hb; exact cl_between (.inl rfl) hb hn (fun _ => by simpa using q)
  · exact cl_attr 5 (by decide) _ _ _ hn (more_pos _ _)
theorem cl_holds (c : Nat) (hh : 0 < s.held.size) : Cl (holdsS s c) := by
  unfold holdsS; split
  · exact cl_held 20 (by decide) _ hh
  · exact cl_held 19 (by decide) _ hh
theorem cl_reads (c : Nat) (r : Int) (hh : 0 < s.held.size) : Cl (readsS s c r) := by
  unfold readsS; split
  · rename_i q; exact cl_read _ _ hh (by omega) (by omega)
  · exact cl_holds c hh
theorem cl_either (b : Bool) (x y : Int) (hx : x < 3 ∨ (13 ≤ x ∧ x ≤ 18)) (hy : y < 3 ∨ (13 ≤ y ∧ y ≤ 18)) : Cl (eitherS b x y) := by
  unfold eitherS; split
  · exact cl_bare x hx
  · exact cl_bare y hy
end
theorem cl_step (s : St) (c : Nat) (h : Cl s) (h0 : 0 ≤ s.pos) (h1 : s.pos ≤ 22) : Cl (stepS s c) := by
  have hT := h.tag
  have hA := h.attr
  have hH := h.held
  have hk : ∃ k : Nat, k ≤ 22 ∧ s.pos = k := ⟨s.pos.toNat, by omega, by omega⟩
  obtain ⟨k, hk, hp⟩ := hk
  have hcases : k = 0 ∨ k = 1 ∨ k = 2 ∨ k = 3 ∨ k = 4 ∨ k = 5 ∨ k = 6 ∨ k = 7 ∨ k = 8 ∨ k = 9 ∨ k = 10 ∨ k = 11 ∨ k = 12 ∨ k = 13 ∨ k = 14 ∨ k = 15 ∨ k = 16 ∨ k = 17 ∨ k = 18 ∨ k = 19 ∨ k = 20 ∨ k = 21 ∨ k = 22 := by omega
  rcases hcases with rfl | rfl | rfl | rfl | rfl | rfl | rfl | rfl | rfl | rfl | rfl | rfl | rfl | rfl | rfl | rfl | rfl | rfl | rfl | rfl | rfl | rfl | rfl
  · rw [stepS_0 c hp]
    exact cl_data c
  · rw [stepS_1 c hp]
    unfold tagOpenS
    split
    · exact cl_tag 3 (by decide) _ _ (more_pos _ _)
    split
    · exact cl_bare 2 (by decide)
    split
    · exact cl_bare 13 (by decide)
    · exact cl_data c
  · rw [stepS_2 c hp]
    unfold endOpenS
    split
    · exact cl_tag 3 (by decide) _ _ (more_pos _ _)
    · exact cl_data c
  · rw [stepS_3 c hp]
    unfold tagNameS
    split
    · rename_i o hb; exact cl_between (.inr rfl) hb (hT (by omega) (by omega)).2.2 (fun h => by omega)
    · exact cl_tag 3 (by decide) _ _ (more_pos _ _)
  · rw [stepS_4 c hp]
    exact cl_begins c (hT (by omega) (by omega)).2.2
  · rw [stepS_5 c hp]
    exact cl_names c _ (hT (by omega) (by omega)).2.2 (hA (by omega) (by omega))
  · rw [stepS_6 c hp]
    exact cl_names c _ (hT (by omega) (by omega)).2.2 (hA (by omega) (by omega))
  · rw [stepS_7 c hp]
    unfold beforeValueS
    split
    · exact cl_attr 7 (by decide) _ _ _ (hT (by omega) (by omega)).2.2 (hA (by omega) (by omega))
    split
    · exact cl_attr 8 (by decide) _ _ _ (hT (by omega) (by omega)).2.2 (hA (by omega) (by omega))
    split
    · exact cl_attr 9 (by decide) _ _ _ (hT (by omega) (by omega)).2.2 (hA (by omega) (by omega))
    split
    · exact cl_closes (hT (by omega) (by omega)).2.2
    · exact cl_attr 10 (by decide) _ _ _ (hT (by omega) (by omega)).2.2 (hA (by omega) (by omega))
  · rw [stepS_8 c hp]
    unfold quotedS
    split
    · exact cl_tag 11 (by decide) _ _ (hT (by omega) (by omega)).2.2
    · unfold attrS; rw [hp]; exact cl_attr 8 (by decide) _ _ _ (hT (by omega) (by omega)).2.2 (hA (by omega) (by omega))
  · rw [stepS_9 c hp]
    unfold quotedS
    split
    · exact cl_tag 11 (by decide) _ _ (hT (by omega) (by omega)).2.2
    · unfold attrS; rw [hp]; exact cl_attr 9 (by decide) _ _ _ (hT (by omega) (by omega)).2.2 (hA (by omega) (by omega))
  · rw [stepS_10 c hp]
    unfold bareS
    split
    · exact cl_tag 4 (by decide) _ _ (hT (by omega) (by omega)).2.2
    split
    · exact cl_closes (hT (by omega) (by omega)).2.2
    · exact cl_attr 10 (by decide) _ _ _ (hT (by omega) (by omega)).2.2 (hA (by omega) (by omega))
  · rw [stepS_11 c hp]
    exact cl_begins c (hT (by omega) (by omega)).2.2
  · rw [stepS_12 c hp]
    exact cl_begins c (hT (by omega) (by omega)).2.2
  · rw [stepS_13 c hp]
    unfold bangsS
    split
    · exact cl_bare 14 (by decide)
    split
    · exact cl_bare 0 (by decide)
    · exact cl_bare 18 (by decide)
  · rw [stepS_14 c hp]
    unfold bangsS
    split
    · exact cl_bare 15 (by decide)
    split
    · exact cl_bare 0 (by decide)
    · exact cl_bare 18 (by decide)
  · rw [stepS_15 c hp]
    unfold commentS
    split
    · exact cl_either _ _ _ (by decide) (by decide)
    · exact cl_either _ _ _ (by decide) (by decide)
  · rw [stepS_16 c hp]
    unfold commentDashS
    split
    · exact cl_either _ _ _ (by decide) (by decide)
    · exact cl_either _ _ _ (by decide) (by decide)
  · rw [stepS_17 c hp]
    unfold commentEndS
    split
    · exact cl_bare 0 (by decide)
    split
    · exact cl_either _ _ _ (by decide) (by decide)
    · exact cl_either _ _ _ (by decide) (by decide)
  · rw [stepS_18 c hp]
    unfold bogusS
    split
    · exact cl_either _ _ _ (by decide) (by decide)
    · exact cl_either _ _ _ (by decide) (by decide)
  · rw [stepS_19 c hp]
    exact cl_holds c (hH (by omega)).2.2.2.1
  · rw [stepS_20 c hp]
    unfold heldLtS
    split
    · exact cl_held 21 (by decide) _ (hH (by omega)).2.2.2.1
    · exact cl_holds c (hH (by omega)).2.2.2.1
  · rw [stepS_21 c hp]
    exact cl_reads c _ (hH (by omega)).2.2.2.1
  · rw [stepS_22 c hp]
    unfold heldNameS
    split
    · exact cl_reads c _ (hH (by omega)).2.2.2.1
    split
    · rename_i o hb; exact cl_between (s := ⟨0, s.held, true, ⟨#[]⟩, ⟨#[]⟩, 0⟩) (.inr rfl) hb (hH (by omega)).2.2.2.1 (fun h => by omega)
    · exact cl_holds c (hH (by omega)).2.2.2.1
structure Tab2 (s : St) (c : Nat) (n : St) : Prop where
  a1 : n.pos = 1 ∨ n.pos = 20 → c = 60 ∧ (s.pos ≤ 2 ∨ 19 ≤ s.pos)
  a2 : s.pos ≤ 2 → n.pos ≤ 3 ∨ n.pos = 13
  a3 : 3 ≤ s.pos → s.pos ≤ 12 → (3 ≤ n.pos ∧ n.pos ≤ 12 ∧ n.fin = s.fin) ∨ ((n.pos = 0 ∨ n.pos = 19) ∧ c = 62 ∧ endsB s = true)
  a4 : 13 ≤ s.pos → s.pos ≤ 18 → (13 ≤ n.pos ∧ n.pos ≤ 18) ∨ (n.pos = 0 ∧ c = 62 ∧ remarksB s = true)
  a5 : 19 ≤ s.pos → (19 ≤ n.pos ∧ n.held = s.held ∧ ¬ (c = 62 ∧ endsB s = true)) ∨ (s.pos = 22 ∧ (n.pos = 4 ∨ n.pos = 12) ∧ n.fin = true) ∨ (s.pos = 22 ∧ n.pos = 0 ∧ c = 62 ∧ endsB s = true)
  a6 : n.pos = 3 → s.pos ≤ 3
  a7 : 8 ≤ n.pos → n.pos ≤ 10 → s.pos = 7 ∨ s.pos = n.pos
  a8 : n.pos = 6 ∨ n.pos = 7 → 5 ≤ s.pos ∧ s.pos ≤ 7
  a9 : n.pos = 5 → 3 ≤ s.pos ∧ s.pos ≤ 12
theorem cl_start : Cl (atS 0) := cl_bare 0 (by decide)
end Go.Proofs.YtfmcdlbbbmeolaaGreatDoor.Tk
end
section
namespace Go.Proofs.YtfmcdlbbbmeolaaGreatDoor.Tk
open Go.RowKit Go.Proofs.YtfmcdlbbbmeolaaGreatDoor.XK Go.Proofs.YtfmcdlbbbmeolaaGreatDoorW.PrintWords Go.Proofs.YtfmcdlbbbmeolaaGreatDoorW.PrintLast Go.Proofs.YtfmcdlbbbmeolaaGreatDoorW.PrintMore
open Go.Proofs.YtfmcdlbbbmeolaaGreatDoor.Ln (linesB linesL)
open Go.Proofs.YtfmcdlbbbmeolaaGreatDoor.Tr (mayB attrsOk okA)
set_option linter.unusedVariables false
set_option linter.unusedSimpArgs false
set_option maxRecDepth 100000
theorem size_ne {a : ByteArray} (h : 0 < a.size) : a.toList.isEmpty = false ∧ (a.toList == ([] : List UInt8)) = false := by
  have e : a.toList ≠ [] := fun e => by
    rw [ByteArray.toList_eq] at e
    have : a.size = 0 := congrArg List.length e
    omega
  exact ⟨by simpa using e, by simpa using e⟩
theorem okA_app (xs ys : List S39) : ∀ n, n ≤ xs.length → okA (xs ++ ys) n = okA xs n
  | 0, _ => rfl
  | n + 1, h => by
    rw [okA, okA, okA_app xs ys n (by omega), List.getElem?_append_left (by omega), List.take_append_of_le_length (by omega)]
theorem attrsOk_keep (xs : List S39) (a : S39) (h : attrsOk xs = true) (ha : 0 < a.f0.size) : attrsOk (keepA xs a) = true := by
  unfold keepA
  split
  · rename_i q
    unfold attrsOk at h ⊢
    rw [Bool.and_eq_true] at h ⊢
    refine ⟨?_, decide_eq_true (by rw [List.length_append, List.length_singleton]; omega)⟩
    rw [List.length_append, List.length_singleton, okA, okA_app _ _ _ (Nat.le_refl _), h.1, Bool.true_and, List.getElem?_append_right (Nat.le_refl _), Nat.sub_self, List.take_left]
    show (!(a.f0.toList == []) && !has a.f0 xs) = true
    rw [(size_ne ha).2, q.2]; rfl
  · exact h
theorem attrsOk_kept (xs : List S39) (h : ∀ a ∈ xs, 0 < a.f0.size) : attrsOk (keptR xs) = true := by
  have key : ∀ (xs acc : List S39), attrsOk acc = true → (∀ a ∈ xs, 0 < a.f0.size) → attrsOk (xs.foldl keepA acc) = true := by
    intro xs
    induction xs with
    | nil => intro acc h _; exact h
    | cons x xs ih => intro acc h h2; exact ih _ (attrsOk_keep acc x h (h2 x (by simp))) (fun a ha => h2 a (by simp [ha]))
  exact key xs [] rfl h
structure MayI (m : Mc) : Prop where
  cl : Cl m.st
  rng : 0 ≤ m.st.pos ∧ m.st.pos ≤ 22
  nm : ∀ a ∈ m.all, 0 < a.f0.size
  out : ∀ t ∈ m.out, mayB t = true
theorem may_txt (h : ByteArray) (b : List UInt8) : ∀ t ∈ txtL h b, mayB t = true := by
  intro t ht
  cases b with
  | nil => cases ht
  | cons c l => simp only [txtL, List.mem_singleton] at ht; subst ht; unfold mayB; simp [ByteArray.toList_eq]
theorem may_tag (m : Mc) (h : MayI m) (he : endsB m.st = true) : mayB (tagL m.all m.st) = true := by
  have hsp : (3 ≤ m.st.pos ∧ m.st.pos ≤ 12) ∨ m.st.pos = 22 := by
    rcases Int.lt_or_le m.st.pos 3 with q | q
    · exact absurd he (fun e => ends_no m.st.pos rfl (by omega) e)
    · by_cases q2 : m.st.pos ≤ 12
      · exact .inl ⟨q, q2⟩
      · by_cases q3 : m.st.pos = 22
        · exact .inr q3
        · exact absurd he (fun e => ends_no m.st.pos rfl (by omega) e)
  unfold tagL
  rcases hsp with q | q
  · have hc := h.cl.tag q.1 q.2
    rw [if_neg (by omega)]
    split
    · unfold mayB; simp [ByteArray.toList_eq]; have := (size_ne hc.2.2).1; rw [ByteArray.toList_eq] at this; simpa using this
    · have ha := attrsOk_kept m.all h.nm
      unfold mayB
      simp only [if_pos, ha, (size_ne hc.2.2).1]
      rw [show (⟨#[]⟩ : ByteArray).toList.isEmpty = true by rw [ByteArray.toList_eq]; rfl]; rfl
  · have hc := h.cl.held (by omega)
    rw [if_pos q]
    unfold mayB; simp [ByteArray.toList_eq]; have := (size_ne hc.2.2.2.1).1; rw [ByteArray.toList_eq] at this; simpa using this
theorem mayI_step {m : Mc} (h : MayI m) (c : UInt8) : MayI (stepM m c) := by
  have t := step_tab m.st c.toNat h.rng.1 h.rng.2
  have hcn := cl_step m.st c.toNat h.cl h.rng.1 h.rng.2
  unfold stepM
  simp only
  obtain ⟨nx, hnx⟩ : ∃ nx, stepS m.st c.toNat = nx := ⟨_, rfl⟩
  rw [hnx] at t hcn ⊢
  by_cases c1 : c = 60 ∧ (nx.pos = 1 ∨ nx.pos = 20)
  · rw [if_pos c1]; exact ⟨hcn, t.rng, h.nm, h.out⟩
  rw [if_neg c1]
  by_cases c2 : c = 62 ∧ endsB m.st = true
  · rw [if_pos c2]
    refine ⟨hcn, t.rng, h.nm, fun x hx => ?_⟩
    simp only [List.mem_append, List.mem_singleton] at hx
    rcases hx with (hx | hx) | rfl
    · exact h.out x hx
    · exact may_txt _ _ x hx
    · exact may_tag m h c2.2
  rw [if_neg c2]
  by_cases c3 : c = 62 ∧ remarksB m.st = true
  · rw [if_pos c3]
    refine ⟨hcn, t.rng, h.nm, fun x hx => ?_⟩
    simp only [List.mem_append, List.mem_singleton] at hx
    rcases hx with (hx | hx) | rfl
    · exact h.out x hx
    · exact may_txt _ _ x hx
    · unfold mayB; simp [ByteArray.toList_eq]
  rw [if_neg c3]
  refine ⟨hcn, t.rng, ?_, h.out⟩
  have key : ∀ q : List S39 × Option S39, attM m nx c = q → ∀ a ∈ q.1 ++ q.2.toList, 0 < a.f0.size := by
    intro q hq
    have hnm := h.nm
    unfold Mc.all at hnm
    have hmap : ∀ (f : S39 → S39), (∀ a, (f a).f0 = a.f0 ∨ 0 < (f a).f0.size) → ∀ a ∈ m.ats ++ (m.cur.map f).toList, 0 < a.f0.size := by
      intro f hf a ha
      rcases List.mem_append.1 ha with ha | ha
      · exact hnm a (List.mem_append_left _ ha)
      · cases hc : m.cur with
        | none => rw [hc] at ha; cases ha
        | some b =>
          rw [hc] at ha
          simp only [Option.map_some, Option.toList, List.mem_singleton] at ha
          subst ha
          rcases hf b with e | e
          · rw [e]; exact hnm b (List.mem_append_right _ (by rw [hc]; simp))
          · exact e
    unfold attM at hq
    split at hq
    · subst hq; intro a ha; cases ha
    split at hq
    · rename_i n5
      have hp := hcn.attr (by omega) (by omega)
      split at hq
      · subst hq; exact hmap _ (fun _ => .inr hp)
      · subst hq; intro a ha
        have ha : a ∈ (m.ats ++ m.cur.toList) ++ [(⟨nx.attr, ⟨#[]⟩⟩ : S39)] := ha
        rcases List.mem_append.1 ha with ha | ha
        · exact hnm a ha
        · simp only [List.mem_singleton] at ha; subst ha; exact hp
    split at hq
    · subst hq; exact hmap _ (fun _ => .inl rfl)
    split at hq
    · subst hq; exact hmap _ (fun _ => .inl rfl)
    · subst hq; exact hnm
  exact key _ rfl
theorem mayI_run (l : List UInt8) : ∀ {m : Mc}, MayI m → MayI (runM m l) := by
  induction l with
  | nil => intro m h; exact h
  | cons c l ih => intro m h; rw [run_cons]; exact ih (mayI_step h c)
theorem mayI_start : MayI m0 := ⟨cl_start, by decide, fun a ha => (by cases ha), fun t ht => (by cases ht)⟩
theorem toks_may (page : List UInt8) : (tokensM page).1.all mayB = true := by
  unfold tokensM
  split
  · rfl
  · rw [List.all_eq_true]
    intro t ht
    have h := mayI_run (linesL page) mayI_start
    unfold endM at ht
    rcases List.mem_append.1 ht with ht | ht
    · exact h.out t ht
    · exact may_txt _ _ t ht
end Go.Proofs.YtfmcdlbbbmeolaaGreatDoor.Tk
end
section
namespace Go.Proofs.YtfmcdlbbbmeolaaGreatDoor.Tr
open Go.RowKit Go.Proofs.YtfmcdlbbbmeolaaGreatDoor.XK Go.Proofs.YtfmcdlbbbmeolaaGreatDoor.Base Go.Proofs.YtfmcdlbbbmeolaaGreatDoorW.PrintWords Go.Proofs.YtfmcdlbbbmeolaaGreatDoorW.PrintLast Go.Proofs.YtfmcdlbbbmeolaaGreatDoorW.PrintMore
attribute [local go_sem ↓] Go.wp_at_zero Go.wp_at_succ
set_option linter.unusedVariables false
set_option linter.unusedSimpArgs false
set_option maxRecDepth 100000
theorem pnode_at {w : World} {A : Option Addr} {ns : List S69} (h : Kd.C k69 w A ns.length ns) (k : Nat) (hk : k < ns.length) :
    ∃ ad A3 c3, A = some ad ∧ w.cell? (ad.add (k * 5)) = some (.int .i64 (nd ns k).f0) ∧ w.cell? ⟨(ad.add (k * 5)).block, (ad.add (k * 5)).off + 1, none⟩ = some (.string (nd ns k).f1) ∧ w.cell? ⟨(ad.add (k * 5)).block, (ad.add (k * 5)).off + 2, none⟩ = some (.string (nd ns k).f2) ∧ w.cell? ⟨(ad.add (k * 5)).block, (ad.add (k * 5)).off + 3, none⟩ = some (.slice A3 (nd ns k).f3.length c3) ∧ w.cell? ⟨(ad.add (k * 5)).block, (ad.add (k * 5)).off + 4, none⟩ = some (.int .i64 (nd ns k).f4) ∧ (nd ns k).f3.length ≤ c3 ∧ Kd.C k39 w A3 (nd ns k).f3.length (nd ns k).f3 := by
  have hx : rd_T69 ns (k : Int) = nd ns k := by simp [rd_T69, nd]
  have := at_T69 h (k : Int) (by omega) (by omega)
  rw [hx, Int.toNat_natCast] at this
  obtain ⟨ad, A3, c3, e, g0, g1, g2, g3, g4, g5, g6⟩ := this
  exact ⟨ad, A3, c3, e, g0, g1, g2, g3, g4, g5, g6⟩
set_option maxHeartbeats 3200000 in
theorem plain_calls (x : S69) (p : Addr) (A : Option Addr) (c : Nat) (w : World) (h0 : w.cell? p = some (.int .i64 x.f0)) (h1 : w.cell? ⟨p.block, p.off + 1, none⟩ = some (.string x.f1)) (h2 : w.cell? ⟨p.block, p.off + 2, none⟩ = some (.string x.f2)) (h3 : w.cell? ⟨p.block, p.off + 3, none⟩ = some (.slice A x.f3.length c)) :
    Calls Tryz.prog 127 #[.pointer (some p)] w fun e w' => e = .returned (.bool (plainB x)) ∧ Drawn0 w w' := by
  by_cases k0 : x.f0 = 0
  · rw [k0] at h0
    cases e1 : x.f1.toList.isEmpty
    · skip
      rw [show plainB x = false by unfold plainB; simp [*]]
      clear k0
      go_enter Tryz.func127, Tryz.ntmps127
      go_wp2
      go_ret
      exact ⟨rfl, by repeat (first | exact Drawn0.refl _ | apply Drawn0.step)⟩
    · cases e2 : x.f2.toList.isEmpty
      · skip
        rw [show plainB x = false by unfold plainB; simp [*]]
        clear k0
        go_enter Tryz.func127, Tryz.ntmps127
        go_wp2
        go_ret
        exact ⟨rfl, by repeat (first | exact Drawn0.refl _ | apply Drawn0.step)⟩
      · by_cases e3 : x.f3.length = 0
        · have d3 : ((x.f3.length : Int) == 0) = true := by rw [beq_iff_eq]; omega
          rw [show plainB x = true by unfold plainB; simp [*]]
          clear k0 e3
          go_enter Tryz.func127, Tryz.ntmps127
          go_wp2
          go_ret
          exact ⟨rfl, by repeat (first | exact Drawn0.refl _ | apply Drawn0.step)⟩
        · have d3 : ((x.f3.length : Int) == 0) = false := by rw [beq_eq_false_iff_ne]; omega
          rw [show plainB x = false by unfold plainB; simp [*]]
          clear k0 e3
          go_enter Tryz.func127, Tryz.ntmps127
          go_wp2
          go_ret
          exact ⟨rfl, by repeat (first | exact Drawn0.refl _ | apply Drawn0.step)⟩
  have n0 : (x.f0 == 0) = false := by simpa using k0
  by_cases k1 : x.f0 = 1
  · rw [k1] at h0
    cases e2 : x.f2.toList.isEmpty
    · skip
      rw [show plainB x = false by unfold plainB; simp [*]]
      clear k0 k1 n0
      go_enter Tryz.func127, Tryz.ntmps127
      go_wp2
      go_ret
      exact ⟨rfl, by repeat (first | exact Drawn0.refl _ | apply Drawn0.step)⟩
    · skip
      rw [show plainB x = true by unfold plainB; simp [*]]
      clear k0 k1 n0
      go_enter Tryz.func127, Tryz.ntmps127
      go_wp2
      go_ret
      exact ⟨rfl, by repeat (first | exact Drawn0.refl _ | apply Drawn0.step)⟩
  have n1 : (x.f0 == 1) = false := by simpa using k1
  by_cases k2 : x.f0 = 2
  · rw [k2] at h0
    cases e1 : x.f1.toList.isEmpty
    · skip
      rw [show plainB x = false by unfold plainB; simp [*]]
      clear k0 k1 n0 n1 k2
      go_enter Tryz.func127, Tryz.ntmps127
      go_wp2
      go_ret
      exact ⟨rfl, by repeat (first | exact Drawn0.refl _ | apply Drawn0.step)⟩
    · by_cases e3 : x.f3.length = 0
      · have d3 : ((x.f3.length : Int) == 0) = true := by rw [beq_iff_eq]; omega
        rw [show plainB x = true by unfold plainB; simp [*]]
        clear k0 k1 n0 n1 k2 e3
        go_enter Tryz.func127, Tryz.ntmps127
        go_wp2
        go_ret
        exact ⟨rfl, by repeat (first | exact Drawn0.refl _ | apply Drawn0.step)⟩
      · have d3 : ((x.f3.length : Int) == 0) = false := by rw [beq_eq_false_iff_ne]; omega
        rw [show plainB x = false by unfold plainB; simp [*]]
        clear k0 k1 n0 n1 k2 e3
        go_enter Tryz.func127, Tryz.ntmps127
        go_wp2
        go_ret
        exact ⟨rfl, by repeat (first | exact Drawn0.refl _ | apply Drawn0.step)⟩
  have n2 : (x.f0 == 2) = false := by simpa using k2
  by_cases k3 : x.f0 = 3
  · rw [k3] at h0
    cases e1 : x.f1.toList.isEmpty
    · skip
      rw [show plainB x = false by unfold plainB; simp [*]]
      clear k0 k1 n0 n1 k2 n2 k3
      go_enter Tryz.func127, Tryz.ntmps127
      go_wp2
      go_ret
      exact ⟨rfl, by repeat (first | exact Drawn0.refl _ | apply Drawn0.step)⟩
    · by_cases e3 : x.f3.length = 0
      · have d3 : ((x.f3.length : Int) == 0) = true := by rw [beq_iff_eq]; omega
        rw [show plainB x = true by unfold plainB; simp [*]]
        clear k0 k1 n0 n1 k2 n2 k3 e3
        go_enter Tryz.func127, Tryz.ntmps127
        go_wp2
        go_ret
        exact ⟨rfl, by repeat (first | exact Drawn0.refl _ | apply Drawn0.step)⟩
      · have d3 : ((x.f3.length : Int) == 0) = false := by rw [beq_eq_false_iff_ne]; omega
        rw [show plainB x = false by unfold plainB; simp [*]]
        clear k0 k1 n0 n1 k2 n2 k3 e3
        go_enter Tryz.func127, Tryz.ntmps127
        go_wp2
        go_ret
        exact ⟨rfl, by repeat (first | exact Drawn0.refl _ | apply Drawn0.step)⟩
  have n3 : (x.f0 == 3) = false := by simpa using k3
  rw [show plainB x = false by unfold plainB; simp [*]]
  clear k0 k1 k2 k3
  go_enter Tryz.func127, Tryz.ntmps127
  go_wp2
  go_ret
  exact ⟨rfl, by repeat (first | exact Drawn0.refl _ | apply Drawn0.step)⟩
theorem not_may {ns : List S69} {k : Nat} (h : k < ns.length) (h1 : okB ns k = false) : mayNs ns = false := by
  unfold mayNs
  rw [Bool.and_eq_false_iff]; right
  rw [List.all_eq_false]
  exact ⟨k, by simpa using h, by rw [h1]; simp⟩
theorem may_snoc {ns : List S69} {k : Nat} (h1 : (List.range k).all (okB ns) = true) (h2 : okB ns k = true) : (List.range (k + 1)).all (okB ns) = true := by
  rw [List.range_succ, List.all_append, h1]; simp [h2]
set_option maxHeartbeats 6400000 in
theorem pmay_calls (ns : List S69) (A : Option Addr) (c : Nat) (w : World) (hC : Kd.C k69 w A ns.length ns) :
    Calls Tryz.prog 65 #[.slice A ns.length c] w fun e w' => e = .returned (.bool (mayNs ns)) ∧ Below w.heap.size w w' := by
  have HC := Aside0.mk hC
  have HL := Aside0.mk hC.2.1
  have hu := Tryz.underlying69
  clear hC
  go_enter Tryz.func65, Tryz.ntmps65
  go_wp2
  go_loopw [7] (fun i wr => ∃ k : Nat, k ≤ ns.length ∧ i = .int .i64 k ∧ Aside0 ((List.range k).all (okB ns) = true) ∧ Aside0 (Below w.heap.size w wr))
    (fun i _ => ns.length - (RowKit.intOf i).toNat)
  case atStart => exact ⟨0, Nat.zero_le _, rfl, ⟨rfl⟩, ⟨Below.refl _ _⟩⟩
  case round =>
    obtain ⟨k, hk, rfl, HM, HB⟩ := hrel
    have hm := HL.out
    by_cases hlt : k < ns.length
    · obtain ⟨ad, A3, c3, e, g0, g1, g2, g3, g4, _, _⟩ := pnode_at HC.out k hlt
      cases e
      have HN := Aside0.mk (fun q hq => pnode_at HC.out q hq)
      obtain ⟨x, hx⟩ : ∃ x, nd ns k = x := ⟨_, rfl⟩
      rw [hx] at g0 g1 g2 g3 g4
      replace g0 := pw_cell_below HB.out g0
      replace g1 := pw_cell_below HB.out g1
      replace g2 := pw_cell_below HB.out g2
      replace g3 := pw_cell_below HB.out g3
      replace g4 := pw_cell_below HB.out g4
      have HP := Aside0.mk (plain_calls x _ A3 c3 wr g0 g1 g2 g3)
      have HX := Aside0.mk hx
      have HB2 := Aside0.mk (fun m => pw_below_drewN HB.out m)
      have hok : okB ns k = (plainB x && (decide (x.f0 = 0) == decide (k = 0)) && (if k = 0 then decide ((nd ns 0).f4 = -1) else decide (0 ≤ x.f4) && (decide (x.f4 < (k : Int)) && decide ((nd ns x.f4.toNat).f0 ≤ 1)))) := by unfold okB; rw [hx]
      have HO := Aside0.mk hok
      clear hok hx g1 g2 g3
      by_cases q1 : plainB x = true
      · rw [q1] at HP
        by_cases kz : k = 0
        · subst kz
          have e0 : ad.add (0 * 5) = ad := by simp [Addr.add]
          rw [e0] at g0 g4
          by_cases k0 : x.f0 = 0
          · rw [k0] at g0
            by_cases k4 : x.f4 = -1
            · rw [k4] at g4
              have HM2 := Aside0.mk (may_snoc HM.out (by rw [HO.out, q1, k0, if_pos rfl, HX.out, k4]; rfl))
              clear q1 k0 k4 HM
              go_wp2_with (go_at_call 127; refine HP.out.mono ?_; rintro e w2 ⟨rfl, ⟨⟨m, rfl⟩⟩⟩)
              go_roundw
              case rel => exact ⟨0 + 1, by omega, by go_num, HM2, ⟨HB2.out _⟩⟩
              case measure => simp [RowKit.intOf]; omega
            · have d4 : (x.f4 != -1) = true := by simpa using k4
              have HM2 := Aside0.mk (not_may hlt (by rw [HO.out, if_pos rfl, HX.out, decide_eq_false k4]; simp))
              clear q1 k0 k4 HM
              go_wp2_with (go_at_call 127; refine HP.out.mono ?_; rintro e w2 ⟨rfl, ⟨⟨m, rfl⟩⟩⟩)
              go_ret
              exact ⟨by rw [HM2.out]; rfl, HB2.out _⟩
          · have n0 : (x.f0 == 0) = false := by simpa using k0
            have HM2 := Aside0.mk (not_may hlt (by rw [HO.out, decide_eq_false k0]; simp))
            clear q1 k0 HM
            go_wp2_with (go_at_call 127; refine HP.out.mono ?_; rintro e w2 ⟨rfl, ⟨⟨m, rfl⟩⟩⟩)
            go_ret
            exact ⟨by rw [HM2.out]; rfl, HB2.out _⟩
        · have z0 : ((k : Int) == 0) = false := by rw [beq_eq_false_iff_ne]; omega
          by_cases k0 : x.f0 = 0
          · rw [k0] at g0
            have HM2 := Aside0.mk (not_may hlt (by rw [HO.out, decide_eq_true k0, decide_eq_false kz]; simp))
            clear q1 k0 kz HM
            go_wp2_with (go_at_call 127; refine HP.out.mono ?_; rintro e w2 ⟨rfl, ⟨⟨m, rfl⟩⟩⟩)
            go_ret
            exact ⟨by rw [HM2.out]; rfl, HB2.out _⟩
          · have n0 : (x.f0 == 0) = false := by simpa using k0
            by_cases p0 : x.f4 < 0
            · have d0 : decide (x.f4 < 0) = true := decide_eq_true p0
              have HM2 := Aside0.mk (not_may hlt (by rw [HO.out, if_neg kz, decide_eq_false (show ¬ 0 ≤ x.f4 by omega)]; simp))
              clear q1 k0 kz HM p0
              go_wp2_with (go_at_call 127; refine HP.out.mono ?_; rintro e w2 ⟨rfl, ⟨⟨m, rfl⟩⟩⟩)
              go_ret
              exact ⟨by rw [HM2.out]; rfl, HB2.out _⟩
            · obtain ⟨q, hq⟩ : ∃ q : Nat, x.f4 = (q : Int) := ⟨x.f4.toNat, by omega⟩
              rw [hq] at g4
              have d0 : decide ((q : Int) < 0) = false := decide_eq_false (by omega)
              by_cases p1 : k ≤ q
              · have d1 : decide (k ≤ q) = true := decide_eq_true p1
                have HM2 := Aside0.mk (not_may hlt (by rw [HO.out, if_neg kz, decide_eq_false (show ¬ x.f4 < (k : Int) by omega)]; simp))
                clear q1 k0 kz HM p0 hq
                go_wp2_with (go_at_call 127; refine HP.out.mono ?_; rintro e w2 ⟨rfl, ⟨⟨m, rfl⟩⟩⟩)
                go_ret
                exact ⟨by rw [HM2.out]; rfl, HB2.out _⟩
              · have d1 : decide (k ≤ q) = false := decide_eq_false p1
                have hqn : q < ns.length := by omega
                obtain ⟨ad2, _, _, e2, y0, _⟩ := HN.out q hqn
                cases e2
                replace y0 := pw_cell_below HB.out y0
                obtain ⟨v, hv⟩ : ∃ v, (nd ns q).f0 = v := ⟨_, rfl⟩
                rw [hv] at y0
                by_cases p2 : v ≤ 1
                · have d2 : decide (1 < v) = false := decide_eq_false (by omega)
                  have HM2 := Aside0.mk (may_snoc HM.out (by rw [HO.out, q1, decide_eq_false k0, decide_eq_false kz, if_neg kz, hq, Int.toNat_natCast, hv, decide_eq_true p2, decide_eq_true (show (0 : Int) ≤ (q : Int) by omega), decide_eq_true (show (q : Int) < (k : Int) by omega)]; rfl))
                  clear q1 k0 kz HM p0 hq hv p2 p1
                  go_wp2_with (go_at_call 127; refine HP.out.mono ?_; rintro e w2 ⟨rfl, ⟨⟨m, rfl⟩⟩⟩)
                  go_roundw
                  case rel => exact ⟨k + 1, by omega, by go_num, HM2, ⟨HB2.out _⟩⟩
                  case measure => simp [RowKit.intOf]; omega
                · have d2 : decide (1 < v) = true := decide_eq_true (by omega)
                  have HM2 := Aside0.mk (not_may hlt (by rw [HO.out, if_neg kz, hq, Int.toNat_natCast, hv, decide_eq_false p2]; simp))
                  clear q1 k0 kz HM p0 hq hv p2 p1
                  go_wp2_with (go_at_call 127; refine HP.out.mono ?_; rintro e w2 ⟨rfl, ⟨⟨m, rfl⟩⟩⟩)
                  go_ret
                  exact ⟨by rw [HM2.out]; rfl, HB2.out _⟩
      · have q1 : plainB x = false := by simpa using q1
        rw [q1] at HP
        have HM2 := Aside0.mk (not_may hlt (by rw [HO.out, q1]; rfl))
        clear q1 HM
        go_wp2_with (go_at_call 127; refine HP.out.mono ?_; rintro e w2 ⟨rfl, ⟨⟨m, rfl⟩⟩⟩)
        go_ret
        exact ⟨by rw [HM2.out]; rfl, HB2.out _⟩
    · have hkl : k = ns.length := by omega
      subst hkl
      have HM2 := Aside0.mk (show mayNs ns = decide (0 < ns.length) by unfold mayNs; rw [HM.out, Bool.and_true])
      clear HM
      go_wp2
      go_ret
      exact ⟨by rw [HM2.out]; rfl, HB.out⟩
end Go.Proofs.YtfmcdlbbbmeolaaGreatDoor.Tr
end
section
namespace Go.Proofs.YtfmcdlbbbmeolaaGreatDoor.Tr
open Go.RowKit Go.Proofs.YtfmcdlbbbmeolaaGreatDoor.XK Go.Proofs.YtfmcdlbbbmeolaaGreatDoor.Base Go.Proofs.YtfmcdlbbbmeolaaGreatDoorW.PrintWords Go.Proofs.YtfmcdlbbbmeolaaGreatDoorW.PrintLast Go.Proofs.YtfmcdlbbbmeolaaGreatDoorW.PrintMore Go.Proofs.YtfmcdlbbbmeolaaGreatDoor.Ext Go.Proofs.YtfmcdlbbbmeolaaGreatDoor.Utf Go.Proofs.YtfmcdlbbbmeolaaGreatDoor.Bld
attribute [local go_sem ↓] Go.wp_at_zero Go.wp_at_succ
set_option linter.unusedVariables false
set_option linter.unusedSimpArgs false
set_option maxRecDepth 100000
def TabP (w : World) : Prop := Lib.TabIs Tryz.prog w "internal/strconv.uint64pow10" .u64 Lib.pow10Tab
theorem TabP.below {w w' : World} (h : TabP w) (hb : Below w.heap.size w w') : TabP w' := by
  unfold TabP Lib.TabIs World.var? at h ⊢
  cases hg : Tryz.prog.globalNamed "internal/strconv.uint64pow10" with
  | none => rw [hg] at h; exact h
  | some g =>
    rw [hg] at h
    simp only [Option.bind_some] at h ⊢
    have hlt : g < w.heap.size := by
      rcases Nat.lt_or_ge g w.heap.size with hl | hl
      · exact hl
      · rw [Array.getElem?_eq_none hl] at h; cases h
    rw [hb.block g hlt]; exact h
theorem ints_set (xs : List Int) (i : Nat) (v : Int) : (nums .i64 xs).toArray.setIfInBounds i (.int .i64 v) = (nums .i64 (xs.set i v)).toArray := by
  unfold nums; simp
theorem ints_get (xs : List Int) (i : Nat) (h : i < xs.length) : (nums .i64 xs).toArray[i]? = some (.int .i64 (xs.getD i 0)) := by
  unfold nums; rw [List.getD_eq_getElem?_getD, List.getElem?_eq_getElem h]; simp [h]
theorem isF_set {T e I : TypeId} {B b g i : Nat} {bs : List Value} {cs : Array Value} {fz : Nat × Nat} {u : Value} {w : World} (h : Lib.IsBuilderF T e B b bs w) (hg : w.heap[g]? = some (.cells cs I fz)) (h1 : I ≠ e) (h2 : I ≠ T) : Lib.IsBuilderF T e B b bs (w.setCell ⟨g, i, none⟩ u) := by
  have key : ∀ p, Lib.BuilderAtF T e B b p bs w → Lib.BuilderAtF T e B b p bs (w.setCell ⟨g, i, none⟩ u) := by
    rintro p ⟨hB, v, hb, hown, hne⟩
    have hbg : b ≠ g := by
      rintro rfl
      rw [hg] at hb
      injection hb with hb
      injection hb with _ hb
      exact h2 hb
    exact ⟨hB, v, (Below.heap_setCell w ⟨g, i, none⟩ u b hbg).trans hb, World.ownsRowF.kept hown (⟨rfl, rfl, rfl, by simp [World.setCell], fun k _ hk => Below.heap_setCell w ⟨g, i, none⟩ u k (fun e => hk (by rw [e]))⟩ : w.grownBy (w.setCell ⟨g, i, none⟩ u) (some g)) (.inr (Lib.ownBlock_neF hown hg h1)), hne⟩
  rcases h with h | h
  · exact .inl (key _ h)
  · exact .inr (key _ h)
structure SkI (B g : Nat) (acc : List UInt8) (xs : List Int) (w1 w : World) : Prop where
  bld : Lib.IsBuilderF 108 5 B B (Lib.byteCells acc) w
  nums : w.heap[g]? = some (.cells (nums .i64 xs).toArray 3 (0, 0))
  low : Below w1.heap.size w1 w
theorem SkI.wrote {B g : Nat} {acc : List UInt8} {xs : List Int} {w1 w w' : World} (h : SkI B g acc xs w1 w) (hw : B = w1.heap.size) (hg : g ≠ B) (s : ByteArray)
    (hi : Lib.BuilderAtF 108 5 B B (.pointer (some ⟨B, 0, none⟩)) (Lib.byteCells acc ++ Lib.strCells s) w') (hb : Below B w w') (hk : Lib.OthersKept 5 (some B) w w') : SkI B g (acc ++ s.data.toList) xs w1 w' := by
  refine ⟨?_, hk g _ h.nums (fun e => hg (Option.some.inj e)) (fun c fz e => by injection e with _ e; exact absurd e (by decide)), ?_⟩
  · rw [← bytes_str]; exact .inr hi
  · subst hw; exact h.low.trans hb
theorem SkI.step {B g : Nat} {acc : List UInt8} {xs : List Int} {w1 w w' : World} (h : SkI B g acc xs w1 w) (hb : Below w.heap.size w w') : SkI B g acc xs w1 w' := by
  refine ⟨isF_step h.bld hb, blk_below h.nums hb, h.low.trans (hb.mono h.low.size)⟩
theorem SkI.put {B g : Nat} {acc : List UInt8} {xs : List Int} {w1 w : World} (h : SkI B g acc xs w1 w) (hg : w1.heap.size ≤ g) (i : Nat) (v : Int) : SkI B g acc (xs.set i v) w1 (w.setCell ⟨g, i, none⟩ (.int .i64 v)) := by
  refine ⟨isF_set h.bld h.nums (by decide) (by decide), ?_, h.low.setCell hg _⟩
  have := blk_set h.nums i (.int .i64 v)
  rwa [ints_set] at this
abbrev itoa : Int → List UInt8 := Lib.itoa
def numsAt (ns : List S69) (k : Nat) : List Int := (skS itoa (ns.take k)).nums ++ List.replicate (ns.length - k) 0
theorem take_ne {ns : List S69} {k : Nat} (h1 : 1 ≤ k) (h2 : k ≤ ns.length) : ns.take k ≠ [] := fun e => by
  have := congrArg List.length e
  rw [List.length_take, List.length_nil] at this; omega
theorem take_nd {ns : List S69} {k : Nat} (h2 : k < ns.length) : ns.take (k + 1) = ns.take k ++ [nd ns k] := by
  rw [List.take_succ_eq_append_getElem h2]; unfold nd; rw [List.getD_eq_getElem?_getD, List.getElem?_eq_getElem h2]; rfl
theorem sk_next {ns : List S69} {k : Nat} (h1 : 1 ≤ k) (h2 : k < ns.length) : skS itoa (ns.take (k + 1)) = skStep itoa (skS itoa (ns.take k)) (nd ns k) := by
  rw [take_nd h2, skS_snoc _ _ _ (take_ne h1 (by omega))]
theorem nums_len {ns : List S69} {k : Nat} (h1 : 1 ≤ k) (h2 : k ≤ ns.length) : (numsAt ns k).length = ns.length := by
  unfold numsAt
  rw [List.length_append, List.length_replicate, skS_len _ _ (take_ne h1 h2), List.length_take]; omega
theorem nums_put {ns : List S69} {k : Nat} (h1 : 1 ≤ k) (h2 : k < ns.length) (hk : (nd ns k).f0 ≠ 2) : (numsAt ns k).set k (skS itoa (ns.take k)).next = numsAt ns (k + 1) := by
  unfold numsAt
  have hl := skS_len itoa _ (take_ne h1 (Nat.le_of_lt h2))
  rw [List.length_take, Nat.min_eq_left (by omega)] at hl
  rw [sk_next h1 h2]
  unfold skStep
  rw [if_neg hk, List.set_append_right _ _ (by omega), hl, Nat.sub_self, show ns.length - k = (ns.length - (k + 1)) + 1 by omega, List.replicate_succ]
  simp
theorem nums_same {ns : List S69} {k : Nat} (h1 : 1 ≤ k) (h2 : k < ns.length) (hk : (nd ns k).f0 = 2) : numsAt ns k = numsAt ns (k + 1) := by
  unfold numsAt
  rw [sk_next h1 h2]
  unfold skStep
  rw [if_pos hk, show ns.length - k = (ns.length - (k + 1)) + 1 by omega, List.replicate_succ]
  simp
theorem nums_read {ns : List S69} {k q : Nat} (h1 : 1 ≤ k) (h2 : k < ns.length) (hq : q < k) (v : Int) : ((numsAt ns k).set k v).getD q 0 = (skS itoa (ns.take k)).nums.getD q 0 := by
  have hl := skS_len itoa _ (take_ne h1 (Nat.le_of_lt h2))
  rw [List.length_take, Nat.min_eq_left (by omega)] at hl
  rw [List.getD_eq_getElem?_getD, List.getElem?_set_ne (by omega), List.getD_eq_getElem?_getD]
  unfold numsAt
  rw [List.getElem?_append_left (by omega)]
theorem next_rng (ns : List S69) : ∀ k, 1 ≤ k → k ≤ ns.length → 1 ≤ (skS itoa (ns.take k)).next ∧ (skS itoa (ns.take k)).next ≤ (k : Int) ∧ ∀ x ∈ (skS itoa (ns.take k)).nums, 0 ≤ x ∧ x ≤ (k : Int)
  | 0, h, _ => absurd h (by decide)
  | 1, _, h => by
    have e : ns.take 1 = [nd ns 0] := by rw [take_nd (k := 0) (by omega)]; rfl
    rw [e]
    exact ⟨by show (1 : Int) ≤ 1; omega, by show (1 : Int) ≤ 1; omega, fun x hx => by have : x = 0 := by simpa [skS] using hx
                                                                                      omega⟩
  | k + 2, _, h => by
    obtain ⟨a1, a2, a3⟩ := next_rng ns (k + 1) (by omega) (by omega)
    rw [sk_next (k := k + 1) (by omega) (by omega)]
    unfold skStep
    split
    · refine ⟨a1, by simp only; omega, fun x hx => ?_⟩
      simp only [List.mem_append, List.mem_singleton] at hx
      rcases hx with hx | rfl
      · have := a3 x hx; omega
      · omega
    · refine ⟨by simp only; omega, by simp only; omega, fun x hx => ?_⟩
      simp only [List.mem_append, List.mem_singleton] at hx
      rcases hx with hx | rfl
      · have := a3 x hx; omega
      · omega
theorem out_mono (ns : List S69) (k : Nat) (h1 : 1 ≤ k) : ∀ d, k + d ≤ ns.length → (skS itoa (ns.take k)).out.length ≤ (skS itoa (ns.take (k + d))).out.length
  | 0, _ => Nat.le_refl _
  | d + 1, h => by
    refine Nat.le_trans (out_mono ns k h1 d (by omega)) ?_
    rw [← Nat.add_assoc, sk_next (by omega) (by omega)]
    unfold skStep
    split
    · exact Nat.le_refl _
    · simp only []
      rw [List.length_append]; omega
theorem out_le (ns : List S69) (k : Nat) (h1 : 1 ≤ k) (h2 : k ≤ ns.length) : (skS itoa (ns.take k)).out.length ≤ (skS itoa ns).out.length := by
  have := out_mono ns k h1 (ns.length - k) (by omega)
  rw [show k + (ns.length - k) = ns.length by omega, List.take_of_length_le (Nat.le_refl _)] at this
  exact this
end Go.Proofs.YtfmcdlbbbmeolaaGreatDoor.Tr
end
