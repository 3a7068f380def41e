/- A page's nodes and its skeleton, plain: how large they are; a skeleton by numerals that the kernel can run. What a row's listed table of powers of ten gives. Two short names, for long rows of true and false. Laid by xprint.py, a program of this session over the kit's print: for each Go function one Lean function of the same answers, and the walk that shows it. -/
import Derived.Test.YtfmcdlbbbmeolaaGreatDoorP0
import Derived.Test.YtfmcdlbbbmeolaaGreatDoorP16
import Derived.Test.YtfmcdlbbbmeolaaGreatDoorP15
import Derived.KernelRfl
import Derived.Test.YtfmcdlbbbmeolaaGreatDoorRows
import Derived.Lib.LaidU8T
import Derived.Lib.LaidTab
import Derived.Deep.DeepHandedRow
import Derived.LaidMore
import Derived.Lay
import Derived.Test.YtfmcdlbbbmeolaaGreatDoorV1
import Derived.Test.YtfmcdlbbbmeolaaGreatDoorProg
import Derived.Below
import Derived.Deep.Draws
import Derived.Deep.AppendLies
import Derived.Maps.AppendAt
import Derived.OwnWalk
import Derived.Laws.BytesArg
import Derived.Laws.MakeOwn
import Derived.Laws.OwnMore
import Derived.Deep.OwnRows
import Derived.Tactics
import Derived.Lib.ConvBytes
import Derived.Laws.Slices
import Derived.WalkKit
import Derived.RowKit3
import Derived.Deep.LoopGhost
import Derived.Deep.QuietTactic
import Derived.BigQuiet
import Derived.WideLaws
import Derived.Deep.DeepCutAuto
import Derived.Deep.CutBlock
import Derived.Deep.RegionHeld3
import Derived.Laws.Rows
import Derived.Lib.AppendStr
import Derived.ArgAppend
import Derived.Laws.IdiomCopy
import Derived.OrdersHeld
import Derived.Laws.BitsLemmas
import Derived.RowKit
import Derived.Test.YtfmcdlbbbmeolaaGreatDoorV0
import Derived.Test.YtfmcdlbbbmeolaaGreatDoorV2
import Derived.Test.YtfmcdlbbbmeolaaGreatDoorP2
section
namespace Go.Proofs.YtfmcdlbbbmeolaaGreatDoor.Tr
open Go.RowKit Go.Proofs.YtfmcdlbbbmeolaaGreatDoor.XK Go.Proofs.YtfmcdlbbbmeolaaGreatDoor.Base Go.Proofs.YtfmcdlbbbmeolaaGreatDoorW.PrintWords Go.Proofs.YtfmcdlbbbmeolaaGreatDoorW.PrintLast Go.Proofs.YtfmcdlbbbmeolaaGreatDoorW.PrintMore
set_option linter.unusedVariables false
set_option linter.unusedSimpArgs false
def it4 (n : Int) : List UInt8 :=
  if n.toNat < 10 then [UInt8.ofNat (48 + n.toNat)]
  else if n.toNat < 100 then [UInt8.ofNat (48 + n.toNat / 10), UInt8.ofNat (48 + n.toNat % 10)]
  else if n.toNat < 1000 then [UInt8.ofNat (48 + n.toNat / 100), UInt8.ofNat (48 + n.toNat / 10 % 10), UInt8.ofNat (48 + n.toNat % 10)]
  else [UInt8.ofNat (48 + n.toNat / 1000), UInt8.ofNat (48 + n.toNat / 100 % 10), UInt8.ofNat (48 + n.toNat / 10 % 10), UInt8.ofNat (48 + n.toNat % 10)]
theorem dec_more {u : Nat} (h : ¬ u < 10) : Lib.decDigits u = Lib.decDigits (u / 10) ++ [UInt8.ofNat (48 + u % 10)] := by rw [Lib.decDigits, dif_neg h]
theorem it4_eq (n : Int) (h0 : 0 ≤ n) (h1 : n < 10000) : Lib.itoa n = it4 n := by
  unfold Lib.itoa it4
  rw [if_neg (by omega)]
  obtain ⟨m, hm⟩ : ∃ m, n.toNat = m := ⟨_, rfl⟩
  rw [hm]
  have hm2 : m < 10000 := by omega
  by_cases c1 : m < 10
  · rw [if_pos c1, Lib.decDigits_one c1]
  rw [if_neg c1]
  by_cases c2 : m < 100
  · rw [if_pos c2, Lib.decDigits_two c1 c2]
  rw [if_neg c2]
  by_cases c3 : m < 1000
  · rw [if_pos c3, dec_more c1, Lib.decDigits_two (by omega) (by omega), Nat.div_div_eq_div_mul]; rfl
  · have e1 : m / 10 / 10 = m / 100 := by omega
    have e2 : m / 100 / 10 = m / 1000 := by omega
    rw [if_neg c3, dec_more c1, dec_more (by omega : ¬ m / 10 < 10), Lib.decDigits_two (by omega) (by omega), e1, e2]; rfl
theorem it4_len (n : Int) : (it4 n).length ≤ 4 := by
  unfold it4; repeat' split
  all_goals simp
theorem sk_it4 (ns : List S69) (hl : ns.length ≤ 9999) : ∀ k, 1 ≤ k → k ≤ ns.length → skS itoa (ns.take k) = skS it4 (ns.take k)
  | 0, h, _ => absurd h (by decide)
  | 1, _, h => by
    have e : ns.take 1 = [nd ns 0] := by rw [take_nd (k := 0) (by omega)]; rfl
    rw [e]; rfl
  | k + 2, _, h => by
    have ih := sk_it4 ns hl (k + 1) (by omega) (by omega)
    obtain ⟨_, _, a3⟩ := next_rng ns (k + 1) (by omega) (by omega)
    rw [take_nd (k := k + 1) (by omega), skS_snoc _ _ _ (take_ne (by omega) (by omega)), skS_snoc _ _ _ (take_ne (by omega) (by omega)), ih]
    rw [ih] at a3
    unfold skStep
    split
    · rfl
    · congr 2
      unfold lineL
      rw [show itoa ((skS it4 (ns.take (k + 1))).nums.getD (nd ns (k + 1)).f4.toNat 0) = it4 ((skS it4 (ns.take (k + 1))).nums.getD (nd ns (k + 1)).f4.toNat 0) from it4_eq _ ?_ ?_]
      · rw [List.getD_eq_getElem?_getD]
        cases hg : (skS it4 (ns.take (k + 1))).nums[(nd ns (k + 1)).f4.toNat]? with
        | none => exact Int.le_refl 0
        | some y => exact (a3 y (List.mem_of_getElem? hg)).1
      · rw [List.getD_eq_getElem?_getD]
        cases hg : (skS it4 (ns.take (k + 1))).nums[(nd ns (k + 1)).f4.toNat]? with
        | none => show (0 : Int) < 10000; decide
        | some y => have := (a3 y (List.mem_of_getElem? hg)).2; show y < 10000; omega
theorem sk_run (ns : List S69) (hl : ns.length ≤ 9999) : skS itoa ns = skS it4 ns := by
  by_cases h : ns = []
  · subst h; rfl
  · have h1 := List.length_pos_iff.2 h
    have := sk_it4 ns hl ns.length (by omega) (Nat.le_refl _)
    rwa [List.take_of_length_le (Nat.le_refl _)] at this
def NodB (x : S69) : Prop := x.f1.size ≤ 32 ∧ (x.f0 ≠ 2 → x.f2.size ≤ 65536) ∧ x.f3.length ≤ 32 ∧ ∀ a ∈ x.f3, a.f0.size ≤ 32
theorem fm_bound (xs : List S39) (h : ∀ a ∈ xs, a.f0.size ≤ 32) : (fm xs).length ≤ 33 * xs.length := by
  induction xs with
  | nil => exact Nat.le_refl _
  | cons x xs ih =>
    have h1 := ih (fun a ha => h a (by simp [ha]))
    have h2 := h x (by simp)
    have e : fm (x :: xs) = (32 :: x.f0.data.toList) ++ fm xs := by unfold fm; rw [List.flatMap_cons]
    have e2 : x.f0.data.toList.length = x.f0.size := rfl
    rw [e, List.length_append, List.length_cons, List.length_cons]; omega
theorem line_bound (p : Int) (x : S69) (h : NodB x) (h2 : x.f0 ≠ 2) : (lineL it4 p x.f0 x.f1 x.f2 x.f3).length ≤ 70000 := by
  obtain ⟨a1, a2, a3, a4⟩ := h
  have := it4_len p
  have hf := fm_bound x.f3 a4
  have e1 : x.f1.data.toList.length = x.f1.size := rfl
  have e2 : x.f2.data.toList.length = x.f2.size := rfl
  have a2 := a2 h2
  unfold fm at hf
  unfold lineL
  rw [List.length_append, List.length_append, List.length_append]
  split
  · simp only [List.length_append, List.length_cons, List.length_nil]; omega
  · simp only [List.length_append, List.length_cons, List.length_nil]; omega
theorem out_bound (ns : List S69) (h : ∀ x ∈ ns, NodB x) : (skS it4 ns).out.length ≤ 70000 * ns.length := by
  cases ns with
  | nil => exact Nat.le_refl _
  | cons a l =>
    have key : ∀ (l : List S69) (s : SkS), (∀ x ∈ l, NodB x) → (l.foldl (skStep it4) s).out.length ≤ s.out.length + 70000 * l.length := by
      intro l
      induction l with
      | nil => intro s _; exact Nat.le_refl _
      | cons x l ih =>
        intro s hx
        rw [List.foldl_cons, List.length_cons]
        refine Nat.le_trans (ih _ (fun y hy => hx y (by simp [hy]))) ?_
        unfold skStep
        split
        · simp only; omega
        · rename_i h2
          have := line_bound (s.nums.getD x.f4.toNat 0) x (hx x (by simp)) h2
          simp only [List.length_append]; omega
    have := key l ⟨[0], 1, []⟩ (fun x hx => h x (by simp [hx]))
    show (l.foldl (skStep it4) ⟨[0], 1, []⟩).out.length ≤ _
    simp only [List.length_nil, List.length_cons] at this ⊢; omega
def TokB2 (t : S41) : Prop := Tk.TokB 65536 t ∧ mayB t = true
theorem step_nodB {ns : List S69} {op : List Int} {t : S41} (ht : TokB2 t) (h : ∀ x ∈ ns, NodB x) : ∀ x ∈ (stepF ns op t).1, NodB x := by
  intro x hx
  obtain ⟨⟨b1, b2, b3⟩, b4⟩ := ht
  unfold stepF at hx
  split at hx
  · simp only at hx
    unfold textF at hx
    split at hx
    · rename_i l hl
      split at hx
      · rename_i c
        rcases List.mem_or_eq_of_mem_set hx with hx | rfl
        · exact h x hx
        · have := h l (List.mem_of_getLast? hl)
          exact ⟨this.1, fun e => absurd c.1 e, this.2.2⟩
      · split at hx
        · exact h x hx
        · rcases List.mem_append.1 hx with hx | hx
          · exact h x hx
          · simp only [List.mem_singleton] at hx; subst hx; exact ⟨Nat.zero_le _, fun e => absurd rfl e, Nat.zero_le _, fun a ha => (by cases ha)⟩
    · exact h x hx
  split at hx
  · rcases List.mem_append.1 hx with hx | hx
    · exact h x hx
    · simp only [List.mem_singleton] at hx; subst hx; exact ⟨Nat.zero_le _, fun _ => b2, Nat.zero_le _, fun a ha => (by cases ha)⟩
  split at hx
  · rename_i k1
    rcases List.mem_append.1 hx with hx | hx
    · exact h x hx
    · simp only [List.mem_singleton] at hx; subst hx; exact ⟨b1, fun _ => Nat.zero_le _, may_attrs b4 k1, b3⟩
  · exact h x hx
theorem run_nodB (ts : List S41) : ∀ (ns : List S69) (op : List Int) (r : List S69), (∀ t ∈ ts, TokB2 t) → (∀ x ∈ ns, NodB x) → runF ts ns op = some r → ∀ x ∈ r, NodB x := by
  induction ts with
  | nil => intro ns op r _ h hr; obtain rfl := Option.some.inj hr; exact h
  | cons t ts ih =>
    intro ns op r ht h hr
    rw [runF] at hr
    split at hr
    · cases hr
    · exact ih _ _ r (fun y hy => ht y (by simp [hy])) (step_nodB (ht t (by simp)) h) hr
theorem build_bound (ts : List S41) (ht : ∀ t ∈ ts, Tk.TokB 65536 t) : (buildF ts).1.length ≤ 4096 ∧ ∀ x ∈ (buildF ts).1, NodB x := by
  unfold buildF
  split
  · rename_i hm
    rw [List.all_eq_true] at hm
    cases hr : runF ts [root] [0] with
    | none => exact ⟨Nat.zero_le _, fun x hx => (by cases hx)⟩
    | some r =>
      obtain ⟨_, h2, _⟩ := runF_shape ts _ _ _ r sh_root (by decide) hr
      exact ⟨h2, run_nodB ts _ _ r (fun t h => ⟨ht t h, hm t h⟩) (fun x hx => by simp only [List.mem_singleton] at hx; subst hx; exact ⟨Nat.zero_le _, fun _ => Nat.zero_le _, Nat.zero_le _, fun a ha => (by cases ha)⟩) hr⟩
  · exact ⟨Nat.zero_le _, fun x hx => (by cases hx)⟩
def parseF (page : List UInt8) : List S69 × Int := if (Tk.tokensM page).2 = 0 then buildF (Tk.tokensM page).1 else ([], (Tk.tokensM page).2)
theorem parse_bound (page : List UInt8) : (parseF page).1.length ≤ 4096 ∧ ∀ x ∈ (parseF page).1, NodB x := by
  unfold parseF
  split
  · exact build_bound _ (Tk.toks_bnd page).2
  · exact ⟨Nat.zero_le _, fun x hx => (by cases hx)⟩
def skR (ns : List S69) : List UInt8 × Int := if mayNs ns = true then ((skS it4 ns).out, 0) else ([], 800)
theorem skel_f (ns : List S69) (hl : ns.length ≤ 4096) (h : ∀ x ∈ ns, NodB x) : ExtP.page_Skeleton.f ns = some (⟨(skR ns).1.toArray⟩, (skR ns).2) := by
  have hb := out_bound ns h
  unfold ExtP.page_Skeleton.f ExtP.skB skR
  rw [sk_run ns (by omega), if_pos ⟨by omega, by omega⟩]
  split <;> rfl
theorem skel_parse (page : List UInt8) : ExtP.page_Skeleton.f (parseF page).1 = some (⟨(skR (parseF page).1).1.toArray⟩, (skR (parseF page).1).2) := skel_f _ (parse_bound page).1 (parse_bound page).2
theorem parse_ok (page : List UInt8) (h : (parseF page).2 = 0) : skR (parseF page).1 = ((tkS it4 (Tk.tokensM page).1).out, 0) := by
  unfold parseF at h ⊢
  split at h
  · rename_i h0
    rw [if_pos h0]
    unfold skR
    rw [if_pos (build_may _ h), build_skel it4 _ h]
  · exact absurd h (by assumption)
theorem parse_err (page : List UInt8) (h : (parseF page).2 ≠ 0) : (parseF page).1 = [] := by
  unfold parseF at h ⊢
  split at h
  · rename_i h0
    rw [if_pos h0]
    unfold buildF at h ⊢
    split at h
    · rename_i hm
      rw [if_pos hm]
      cases hr : runF (Tk.tokensM page).1 [root] [0] with
      | none => rfl
      | some r => rw [hr] at h; exact absurd rfl h
    · rename_i hm; rw [if_neg hm]
  · rename_i h0; rw [if_neg h0]
end Go.Proofs.YtfmcdlbbbmeolaaGreatDoor.Tr
end
section
namespace Go.Proofs.YtfmcdlbbbmeolaaGreatDoor.ExtP
open Go.RowKit Go.Lib
theorem powData_eq : (Rows.laid_internal_strconv_uint64pow10 : DataW Unit) = tabData .u64 pow10Tab := by kernel_rfl
theorem tabP_of_laid {W : World} {l : List (String × DataW Unit)} (h : laidMetH Tryz.prog l W) (hp : (l.all fun x => x.2.handleName?.isNone) = true)
    (h1 : ("internal/strconv.uint64pow10", Rows.laid_internal_strconv_uint64pow10) ∈ l) : Tr.TabP W := by
  rw [MakeChecks.laidMetH_plain _ _ _ hp] at h
  obtain ⟨g', t', cs, fuel, p, hg', ht', hvar, hd⟩ := Lib.laidMet.reads h h1
  rw [powData_eq] at hd
  obtain rfl : g' = 0 := Option.some.inj (hg'.symm.trans (by kernel_rfl))
  obtain rfl : t' = 227 := Option.some.inj (ht'.symm.trans (by kernel_rfl))
  unfold Tr.TabP TabIs
  rw [hvar, ← cells_of_tab Tryz.underlying227 Tryz.underlying99 (by kernel_rfl) (by kernel_rfl) hd]
end Go.Proofs.YtfmcdlbbbmeolaaGreatDoor.ExtP
end
section
namespace Go.Proofs.YtfmcdlbbbmeolaaGreatDoor.Ext
abbrev T : Bool := true
abbrev F : Bool := false
end Go.Proofs.YtfmcdlbbbmeolaaGreatDoor.Ext
end
section
namespace Go.Proofs.YtfmcdlbbbmeolaaGreatDoor.XP
open Go.RowKit Go.Proofs.YtfmcdlbbbmeolaaGreatDoor.ExtP Go.Proofs.YtfmcdlbbbmeolaaGreatDoor.XK Go.Proofs.YtfmcdlbbbmeolaaGreatDoorW.PrintWords Go.Proofs.YtfmcdlbbbmeolaaGreatDoorW.PrintLast Go.Proofs.YtfmcdlbbbmeolaaGreatDoorW.PrintMore
attribute [local go_sem] max2_int min2_int max_two min_two max_three min_three max_four min_four   -- for this text's walks alone
set_option linter.unusedVariables false
set_option linter.unusedSimpArgs false
theorem info3 : (Tryz.prog.info? 3).map (fun i => (i.zero, i.size, i.bytes)) = some (some (.int .i64 0), 1, 8) := by kernel_rfl
theorem info39 : (Tryz.prog.info? 39).map (fun i => (i.zero, i.size, i.bytes)) = some (some (.agg #[(.string ⟨#[]⟩), (.string ⟨#[]⟩)]), 2, 32) := by kernel_rfl
-- the values' own types
/-! #### struct type 39 -/
/-! #### struct type 69 -/
theorem at_T69 {w : World} {A : Option Addr} {n : Nat} {xs : List S69} (h : Kd.C k69 w A n xs) (i : Int) (h0 : 0 ≤ i) (h1 : i < n) : ∃ ad A3 c3, A = some ad ∧ w.cell? (ad.add (i.toNat * 5)) = some (.int .i64 (rd_T69 xs i).f0) ∧ w.cell? ⟨(ad.add (i.toNat * 5)).block, (ad.add (i.toNat * 5)).off + 1, none⟩ = some (.string (rd_T69 xs i).f1) ∧ w.cell? ⟨(ad.add (i.toNat * 5)).block, (ad.add (i.toNat * 5)).off + 2, none⟩ = some (.string (rd_T69 xs i).f2) ∧ w.cell? ⟨(ad.add (i.toNat * 5)).block, (ad.add (i.toNat * 5)).off + 3, none⟩ = some (.slice A3 (rd_T69 xs i).f3.length c3) ∧ w.cell? ⟨(ad.add (i.toNat * 5)).block, (ad.add (i.toNat * 5)).off + 4, none⟩ = some (.int .i64 (rd_T69 xs i).f4) ∧ (rd_T69 xs i).f3.length ≤ c3 ∧ k39.C w A3 (rd_T69 xs i).f3.length (rd_T69 xs i).f3 := by
  obtain ⟨ad, c, e, _, hK, hc0⟩ := Kd.C_get h z69 i h0 h1
  have hc : ∀ j u, c[j]? = some u → w.cell? (ad.add (i.toNat * 5 + j)) = some u := hc0
  obtain ⟨A3, c3, rfl, l3, g3⟩ := k69_open hK
  exact ⟨ad, A3, c3, e, hc 0 _ rfl, by rw [← add_field _ _ 1 (by omega)]; exact hc 1 _ rfl, by rw [← add_field _ _ 2 (by omega)]; exact hc 2 _ rfl, by rw [← add_field _ _ 3 (by omega)]; exact hc 3 _ rfl, by rw [← add_field _ _ 4 (by omega)]; exact hc 4 _ rfl, l3, g3⟩
end Go.Proofs.YtfmcdlbbbmeolaaGreatDoor.XP
end
