/- A page's nodes and its skeleton, plain: how large they are; a skeleton by numerals that the kernel can run. What a row's listed table of powers of ten gives. sync.Once's slow road: the two calls that 'doSlow' defers, entered as deferred calls; the lock when it is free. sync.Once at strings.Replacer: Do, not yet done, the lock free. strings.Replacer at the three breaks: build. strings.Replacer at the three breaks: build, walked. strings.Replacer at the three breaks: buildOnce, walked; the replacer's own block. -/
import Derived.Test.YtfmcdlbbbmeolaaGreatDoorU0
import Derived.Test.YtfmcdlbbbmeolaaGreatDoorU15
import Derived.Test.YtfmcdlbbbmeolaaGreatDoorU14
import Derived.KernelRfl
import Derived.Test.YtfmcdlbbbmeolaaGreatDoorRows
import Derived.Lib.LaidU8T
import Derived.Lib.LaidTab
import Derived.Deep.DeepHandedRow
import Derived.LaidMore
import Derived.Lay
import Derived.WalkKit
import Derived.Tactics
import Derived.Tactics2
import Derived.Defers
import Derived.Laws.Pointers
import Derived.Laws.LoneSync
import Derived.RegionTactic
import Derived.RegionCalls
import Derived.ChangeAlike
import Derived.Laws.NewBlocks
import Derived.Test.YtfmcdlbbbmeolaaGreatDoorY1
import Derived.BigCall
import Derived.Handy
import Derived.WalkLawsBesides
import Derived.Lib.BufferMore
import Derived.Laws.IdiomStrings
import Derived.Laws.MakeOwn
import Derived.Deep.WholeRow
import Derived.Lib.SmallJoins
import Derived.Deep.RegionHeld3
import Derived.Deep.DrawnRows
section
namespace Go.Proofs.YtfmcdlbbbmeolaaGreatDoor.Tr
open Go.RowKit Go.Proofs.YtfmcdlbbbmeolaaGreatDoor.XK Go.Proofs.YtfmcdlbbbmeolaaGreatDoor.Base Go.Proofs.YtfmcdlbbbmeolaaGreatDoorW.PrintWords Go.Proofs.YtfmcdlbbbmeolaaGreatDoorW.PrintLast Go.Proofs.YtfmcdlbbbmeolaaGreatDoorW.PrintMore
set_option linter.unusedVariables false
set_option linter.unusedSimpArgs false
def it4 (n : Int) : List UInt8 :=
  if n.toNat < 10 then [UInt8.ofNat (48 + n.toNat)]
  else if n.toNat < 100 then [UInt8.ofNat (48 + n.toNat / 10), UInt8.ofNat (48 + n.toNat % 10)]
  else if n.toNat < 1000 then [UInt8.ofNat (48 + n.toNat / 100), UInt8.ofNat (48 + n.toNat / 10 % 10), UInt8.ofNat (48 + n.toNat % 10)]
  else [UInt8.ofNat (48 + n.toNat / 1000), UInt8.ofNat (48 + n.toNat / 100 % 10), UInt8.ofNat (48 + n.toNat / 10 % 10), UInt8.ofNat (48 + n.toNat % 10)]
theorem dec_more {u : Nat} (h : ¬ u < 10) : Lib.decDigits u = Lib.decDigits (u / 10) ++ [UInt8.ofNat (48 + u % 10)] := by rw [Lib.decDigits, dif_neg h]
theorem it4_eq (n : Int) (h0 : 0 ≤ n) (h1 : n < 10000) : Lib.itoa n = it4 n := by
  unfold Lib.itoa it4
  rw [if_neg (by omega)]
  obtain ⟨m, hm⟩ : ∃ m, n.toNat = m := ⟨_, rfl⟩
  rw [hm]
  have hm2 : m < 10000 := by omega
  by_cases c1 : m < 10
  · rw [if_pos c1, Lib.decDigits_one c1]
  rw [if_neg c1]
  by_cases c2 : m < 100
  · rw [if_pos c2, Lib.decDigits_two c1 c2]
  rw [if_neg c2]
  by_cases c3 : m < 1000
  · rw [if_pos c3, dec_more c1, Lib.decDigits_two (by omega) (by omega), Nat.div_div_eq_div_mul]; rfl
  · have e1 : m / 10 / 10 = m / 100 := by omega
    have e2 : m / 100 / 10 = m / 1000 := by omega
    rw [if_neg c3, dec_more c1, dec_more (by omega : ¬ m / 10 < 10), Lib.decDigits_two (by omega) (by omega), e1, e2]; rfl
theorem it4_len (n : Int) : (it4 n).length ≤ 4 := by
  unfold it4; repeat' split
  all_goals simp
theorem sk_it4 (ns : List S69) (hl : ns.length ≤ 9999) : ∀ k, 1 ≤ k → k ≤ ns.length → skS itoa (ns.take k) = skS it4 (ns.take k)
  | 0, h, _ => absurd h (by decide)
  | 1, _, h => by
    have e : ns.take 1 = [nd ns 0] := by rw [take_nd (k := 0) (by omega)]; rfl
    rw [e]; rfl
  | k + 2, _, h => by
    have ih := sk_it4 ns hl (k + 1) (by omega) (by omega)
    obtain ⟨_, _, a3⟩ := next_rng ns (k + 1) (by omega) (by omega)
    rw [take_nd (k := k + 1) (by omega), skS_snoc _ _ _ (take_ne (by omega) (by omega)), skS_snoc _ _ _ (take_ne (by omega) (by omega)), ih]
    rw [ih] at a3
    unfold skStep
    split
    · rfl
    · congr 2
      unfold lineL
      rw [show itoa ((skS it4 (ns.take (k + 1))).nums.getD (nd ns (k + 1)).f4.toNat 0) = it4 ((skS it4 (ns.take (k + 1))).nums.getD (nd ns (k + 1)).f4.toNat 0) from it4_eq _ ?_ ?_]
      · rw [List.getD_eq_getElem?_getD]
        cases hg : (skS it4 (ns.take (k + 1))).nums[(nd ns (k + 1)).f4.toNat]? with
        | none => exact Int.le_refl 0
        | some y => exact (a3 y (List.mem_of_getElem? hg)).1
      · rw [List.getD_eq_getElem?_getD]
        cases hg : (skS it4 (ns.take (k + 1))).nums[(nd ns (k + 1)).f4.toNat]? with
        | none => show (0 : Int) < 10000; decide
        | some y => have := (a3 y (List.mem_of_getElem? hg)).2; show y < 10000; omega
theorem sk_run (ns : List S69) (hl : ns.length ≤ 9999) : skS itoa ns = skS it4 ns := by
  by_cases h : ns = []
  · subst h; rfl
  · have h1 := List.length_pos_iff.2 h
    have := sk_it4 ns hl ns.length (by omega) (Nat.le_refl _)
    rwa [List.take_of_length_le (Nat.le_refl _)] at this
def NodB (x : S69) : Prop := x.f1.size ≤ 32 ∧ (x.f0 ≠ 2 → x.f2.size ≤ 65536) ∧ x.f3.length ≤ 32 ∧ ∀ a ∈ x.f3, a.f0.size ≤ 32
theorem fm_bound (xs : List S39) (h : ∀ a ∈ xs, a.f0.size ≤ 32) : (fm xs).length ≤ 33 * xs.length := by
  induction xs with
  | nil => exact Nat.le_refl _
  | cons x xs ih =>
    have h1 := ih (fun a ha => h a (by simp [ha]))
    have h2 := h x (by simp)
    have e : fm (x :: xs) = (32 :: x.f0.data.toList) ++ fm xs := by unfold fm; rw [List.flatMap_cons]
    have e2 : x.f0.data.toList.length = x.f0.size := rfl
    rw [e, List.length_append, List.length_cons, List.length_cons]; omega
theorem line_bound (p : Int) (x : S69) (h : NodB x) (h2 : x.f0 ≠ 2) : (lineL it4 p x.f0 x.f1 x.f2 x.f3).length ≤ 70000 := by
  obtain ⟨a1, a2, a3, a4⟩ := h
  have := it4_len p
  have hf := fm_bound x.f3 a4
  have e1 : x.f1.data.toList.length = x.f1.size := rfl
  have e2 : x.f2.data.toList.length = x.f2.size := rfl
  have a2 := a2 h2
  unfold fm at hf
  unfold lineL
  rw [List.length_append, List.length_append, List.length_append]
  split
  · simp only [List.length_append, List.length_cons, List.length_nil]; omega
  · simp only [List.length_append, List.length_cons, List.length_nil]; omega
theorem out_bound (ns : List S69) (h : ∀ x ∈ ns, NodB x) : (skS it4 ns).out.length ≤ 70000 * ns.length := by
  cases ns with
  | nil => exact Nat.le_refl _
  | cons a l =>
    have key : ∀ (l : List S69) (s : SkS), (∀ x ∈ l, NodB x) → (l.foldl (skStep it4) s).out.length ≤ s.out.length + 70000 * l.length := by
      intro l
      induction l with
      | nil => intro s _; exact Nat.le_refl _
      | cons x l ih =>
        intro s hx
        rw [List.foldl_cons, List.length_cons]
        refine Nat.le_trans (ih _ (fun y hy => hx y (by simp [hy]))) ?_
        unfold skStep
        split
        · simp only; omega
        · rename_i h2
          have := line_bound (s.nums.getD x.f4.toNat 0) x (hx x (by simp)) h2
          simp only [List.length_append]; omega
    have := key l ⟨[0], 1, []⟩ (fun x hx => h x (by simp [hx]))
    show (l.foldl (skStep it4) ⟨[0], 1, []⟩).out.length ≤ _
    simp only [List.length_nil, List.length_cons] at this ⊢; omega
def TokB2 (t : S41) : Prop := Tk.TokB 65536 t ∧ mayB t = true
theorem step_nodB {ns : List S69} {op : List Int} {t : S41} (ht : TokB2 t) (h : ∀ x ∈ ns, NodB x) : ∀ x ∈ (stepF ns op t).1, NodB x := by
  intro x hx
  obtain ⟨⟨b1, b2, b3⟩, b4⟩ := ht
  unfold stepF at hx
  split at hx
  · simp only at hx
    unfold textF at hx
    split at hx
    · rename_i l hl
      split at hx
      · rename_i c
        rcases List.mem_or_eq_of_mem_set hx with hx | rfl
        · exact h x hx
        · have := h l (List.mem_of_getLast? hl)
          exact ⟨this.1, fun e => absurd c.1 e, this.2.2⟩
      · split at hx
        · exact h x hx
        · rcases List.mem_append.1 hx with hx | hx
          · exact h x hx
          · simp only [List.mem_singleton] at hx; subst hx; exact ⟨Nat.zero_le _, fun e => absurd rfl e, Nat.zero_le _, fun a ha => (by cases ha)⟩
    · exact h x hx
  split at hx
  · rcases List.mem_append.1 hx with hx | hx
    · exact h x hx
    · simp only [List.mem_singleton] at hx; subst hx; exact ⟨Nat.zero_le _, fun _ => b2, Nat.zero_le _, fun a ha => (by cases ha)⟩
  split at hx
  · rename_i k1
    rcases List.mem_append.1 hx with hx | hx
    · exact h x hx
    · simp only [List.mem_singleton] at hx; subst hx; exact ⟨b1, fun _ => Nat.zero_le _, may_attrs b4 k1, b3⟩
  · exact h x hx
theorem run_nodB (ts : List S41) : ∀ (ns : List S69) (op : List Int) (r : List S69), (∀ t ∈ ts, TokB2 t) → (∀ x ∈ ns, NodB x) → runF ts ns op = some r → ∀ x ∈ r, NodB x := by
  induction ts with
  | nil => intro ns op r _ h hr; obtain rfl := Option.some.inj hr; exact h
  | cons t ts ih =>
    intro ns op r ht h hr
    rw [runF] at hr
    split at hr
    · cases hr
    · exact ih _ _ r (fun y hy => ht y (by simp [hy])) (step_nodB (ht t (by simp)) h) hr
theorem build_bound (ts : List S41) (ht : ∀ t ∈ ts, Tk.TokB 65536 t) : (buildF ts).1.length ≤ 4096 ∧ ∀ x ∈ (buildF ts).1, NodB x := by
  unfold buildF
  split
  · rename_i hm
    rw [List.all_eq_true] at hm
    cases hr : runF ts [root] [0] with
    | none => exact ⟨Nat.zero_le _, fun x hx => (by cases hx)⟩
    | some r =>
      obtain ⟨_, h2, _⟩ := runF_shape ts _ _ _ r sh_root (by decide) hr
      exact ⟨h2, run_nodB ts _ _ r (fun t h => ⟨ht t h, hm t h⟩) (fun x hx => by simp only [List.mem_singleton] at hx; subst hx; exact ⟨Nat.zero_le _, fun _ => Nat.zero_le _, Nat.zero_le _, fun a ha => (by cases ha)⟩) hr⟩
  · exact ⟨Nat.zero_le _, fun x hx => (by cases hx)⟩
def parseF (page : List UInt8) : List S69 × Int := if (Tk.tokensM page).2 = 0 then buildF (Tk.tokensM page).1 else ([], (Tk.tokensM page).2)
theorem parse_bound (page : List UInt8) : (parseF page).1.length ≤ 4096 ∧ ∀ x ∈ (parseF page).1, NodB x := by
  unfold parseF
  split
  · exact build_bound _ (Tk.toks_bnd page).2
  · exact ⟨Nat.zero_le _, fun x hx => (by cases hx)⟩
def skR (ns : List S69) : List UInt8 × Int := if mayNs ns = true then ((skS it4 ns).out, 0) else ([], 800)
theorem skel_f (ns : List S69) (hl : ns.length ≤ 4096) (h : ∀ x ∈ ns, NodB x) : ExtP.page_Skeleton.f ns = some (⟨(skR ns).1.toArray⟩, (skR ns).2) := by
  have hb := out_bound ns h
  unfold ExtP.page_Skeleton.f ExtP.skB skR
  rw [sk_run ns (by omega), if_pos ⟨by omega, by omega⟩]
  split <;> rfl
theorem skel_parse (page : List UInt8) : ExtP.page_Skeleton.f (parseF page).1 = some (⟨(skR (parseF page).1).1.toArray⟩, (skR (parseF page).1).2) := skel_f _ (parse_bound page).1 (parse_bound page).2
theorem parse_ok (page : List UInt8) (h : (parseF page).2 = 0) : skR (parseF page).1 = ((tkS it4 (Tk.tokensM page).1).out, 0) := by
  unfold parseF at h ⊢
  split at h
  · rename_i h0
    rw [if_pos h0]
    unfold skR
    rw [if_pos (build_may _ h), build_skel it4 _ h]
  · exact absurd h (by assumption)
theorem parse_err (page : List UInt8) (h : (parseF page).2 ≠ 0) : (parseF page).1 = [] := by
  unfold parseF at h ⊢
  split at h
  · rename_i h0
    rw [if_pos h0]
    unfold buildF at h ⊢
    split at h
    · rename_i hm
      rw [if_pos hm]
      cases hr : runF (Tk.tokensM page).1 [root] [0] with
      | none => rfl
      | some r => rw [hr] at h; exact absurd rfl h
    · rename_i hm; rw [if_neg hm]
  · rename_i h0; rw [if_neg h0]
end Go.Proofs.YtfmcdlbbbmeolaaGreatDoor.Tr
end
section
namespace Go.Proofs.YtfmcdlbbbmeolaaGreatDoor.ExtP
open Go.RowKit Go.Lib
theorem powData_eq : (Rows.laid_internal_strconv_uint64pow10 : DataW Unit) = tabData .u64 pow10Tab := by kernel_rfl
theorem tabP_of_laid {W : World} {l : List (String × DataW Unit)} (h : laidMetH Tryz.prog l W) (hp : (l.all fun x => x.2.handleName?.isNone) = true)
    (h1 : ("internal/strconv.uint64pow10", Rows.laid_internal_strconv_uint64pow10) ∈ l) : Tr.TabP W := by
  rw [MakeChecks.laidMetH_plain _ _ _ hp] at h
  obtain ⟨g', t', cs, fuel, p, hg', ht', hvar, hd⟩ := Lib.laidMet.reads h h1
  rw [powData_eq] at hd
  obtain rfl : g' = 0 := Option.some.inj (hg'.symm.trans (by kernel_rfl))
  obtain rfl : t' = 227 := Option.some.inj (ht'.symm.trans (by kernel_rfl))
  unfold Tr.TabP TabIs
  rw [hvar, ← cells_of_tab Tryz.underlying227 Tryz.underlying99 (by kernel_rfl) (by kernel_rfl) hd]
end Go.Proofs.YtfmcdlbbbmeolaaGreatDoor.ExtP
end
section
namespace Go.Proofs.YtfmcdlbbbmeolaaGreatDoor.Sync
theorem disable (w : World) : (callFunc 263 #[]).run Tryz.prog w = .ok (.value (.tuple #[])) w := run_call_mark0 Tryz.func263 (by kernel_rfl) (by kernel_rfl) (by kernel_rfl) .disable (by kernel_rfl) w
theorem enable (w : World) : (callFunc 265 #[]).run Tryz.prog w = .ok (.value (.tuple #[])) w := run_call_mark0 Tryz.func265 (by kernel_rfl) (by kernel_rfl) (by kernel_rfl) .enable (by kernel_rfl) w
theorem acquire (a : Addr) (w : World) : (callFunc 266 #[.pointer (some a)]).run Tryz.prog w = .ok (.value (.tuple #[])) w := run_call_marked Tryz.func266 (by kernel_rfl) (by kernel_rfl) (by kernel_rfl) .acquire (by kernel_rfl) a w
theorem releaseMerge (a : Addr) (w : World) : (callFunc 268 #[.pointer (some a)]).run Tryz.prog w = .ok (.value (.tuple #[])) w := run_call_marked Tryz.func268 (by kernel_rfl) (by kernel_rfl) (by kernel_rfl) .releaseMerge (by kernel_rfl) a w
theorem store_deferred (a : Addr) (x : Value) (u : FrameMode) (w : World) (hc : w.cell? a = some x) (hz : w.frozen? a = false) :
    CallsD Tryz.prog 253 #[.pointer (some a), .bool true] u w fun e u' w' => u' = u ∧ (e = .returned (.tuple #[]) ∧ w' = w.drew.setCell a (.int .u32 1)) := by
  have hc' : w.drew.cell? a = some x := by go_simp
  have hz' : w.drew.frozen? a = false := by go_simp
  have hst := run_call_store (P := Tryz.prog) Tryz.func259 (by kernel_rfl) (by kernel_rfl) (by kernel_rfl) (by kernel_rfl) (k := .u32) (y := 1) hc' hz'
  go_enter_d Tryz.func253, Tryz.ntmps253
  go_wp2
  go_region_calls
  all_goals (go_end0; exact ⟨rfl, rfl⟩)
set_option maxRecDepth 100000 in
set_option maxHeartbeats 1600000 in
theorem unlock_deferred (a : Addr) (u : FrameMode) (w : World) (hc : w.cell? a = some (.int .i32 1)) (hz : w.frozen? a = false) :
    CallsD Tryz.prog 252 #[.pointer (some a)] u w fun e u' w' => u' = u ∧ (e = .returned (.tuple #[]) ∧ w' = w.setCell a (.int .i32 0)) := by
  have hd := disable
  have he := enable
  have hr := releaseMerge
  have hadd := run_call_add (P := Tryz.prog) Tryz.func269 (by kernel_rfl) (by kernel_rfl) (by kernel_rfl) .i32 (by kernel_rfl) (y := -1) (s := 0) hc hz (by simp [go_sem]; rfl)
  have hcv := run_convert_to_unsafe (P := Tryz.prog) (src := 273) (dst := 179) Tryz.underlying273 Tryz.underlying179 (by kernel_rfl) hc
  go_enter_d Tryz.func252, Tryz.ntmps252
  go_wp2
  go_end0
  go_wp2
  all_goals go_end0
  all_goals exact ⟨rfl, rfl⟩
set_option maxRecDepth 100000 in
set_option maxHeartbeats 1600000 in
theorem lock_free (a : Addr) (w : World) (hc : w.cell? a = some (.int .i32 0)) (hz : w.frozen? a = false) :
    Calls Tryz.prog 251 #[.pointer (some a)] w fun e w' => e = .returned (.tuple #[]) ∧ w' = w.setCell a (.int .i32 1) := by
  have hd := disable
  have he := enable
  have ha := acquire
  have hcas := run_call_cas_hit (P := Tryz.prog) Tryz.func264 (by kernel_rfl) (by kernel_rfl) (by kernel_rfl) .i32 (by kernel_rfl) (y := 1) hc hz
  have hc' : (w.setCell a (.int .i32 1)).cell? a = some (.int .i32 1) := World.cell?_setCell_same w a _ hc
  have hcv := run_convert_to_unsafe (P := Tryz.prog) (src := 273) (dst := 179) Tryz.underlying273 Tryz.underlying179 (by kernel_rfl) hc'
  go_enter Tryz.func251, Tryz.ntmps251
  go_wp2
  first | go_end0 | (simp only [Exit.inBlock, Exit.then]; refine bodyPost_ret (results_none rfl _ _ _) rfl ?_) | refine bodyPost_ret (results_none rfl _ _ _) rfl ?_
  go_wp2
  all_goals go_end0
  all_goals exact ⟨rfl, rfl⟩
set_option maxRecDepth 100000 in
set_option maxHeartbeats 1600000 in
theorem slow_any (b : Nat) (w : World) (Q : World → Prop)
    (h0 : w.cell? ⟨b, 0, none⟩ = some (.int .u32 0)) (h1 : w.cell? ⟨b, 1, none⟩ = some (.int .i32 0)) (f1 : w.frozen? ⟨b, 1, none⟩ = false)
    (hb : Calls Tryz.prog 217 #[.pointer (some ⟨b, 0, none⟩)] (w.setCell ⟨b, 1, none⟩ (.int .i32 1)) fun e w' => e = .returned (.tuple #[]) ∧ (w'.cell? ⟨b, 0, none⟩ = some (.int .u32 0) ∧ w'.cell? ⟨b, 1, none⟩ = some (.int .i32 1) ∧ w'.frozen? ⟨b, 0, none⟩ = false ∧ w'.frozen? ⟨b, 1, none⟩ = false ∧ Q w')) :
    Calls Tryz.prog 239 #[.pointer (some ⟨b, 0, none⟩), .func (.func 217) #[.pointer (some ⟨b, 0, none⟩)] #[]] w fun e w' => e = .returned (.tuple #[]) ∧
      ∃ w1, Q w1 ∧ w1.cell? ⟨b, 0, none⟩ = some (.int .u32 0) ∧ w1.cell? ⟨b, 1, none⟩ = some (.int .i32 1) ∧ w' = (w1.drew.setCell ⟨b, 0, none⟩ (.int .u32 1)).setCell ⟨b, 1, none⟩ (.int .i32 0) := by
  have hl := run_call_load (P := Tryz.prog) Tryz.func250 (by kernel_rfl) (by kernel_rfl) (by kernel_rfl) .u32 (by kernel_rfl) (w := w.setCell ⟨b, 1, none⟩ (.int .i32 1)) (a := ⟨b, 0, none⟩) (x := 0) ((World.cell?_setCell_other _ ⟨b, 1, none⟩ ⟨b, 0, none⟩ _ (by simp)).trans h0)
  have hnot : ∀ (x : Bool) (w : World), (Op.unary .not (.bool x)).run Tryz.prog w = .ok (.bool (!x)) w := fun _ _ => rfl
  go_enter_defers Tryz.func239, Tryz.ntmps239
  go_wp2_with (first | (go_at_call 251; refine (lock_free ⟨b, 1, none⟩ _ (by go_simp) (by go_simp)).mono ?_; rintro e w' ⟨rfl, rfl⟩) | (go_at_call 238; go_in))
  refine hb.mono ?_
  rintro e w1 ⟨rfl, g0, g1, z0, z1, hq⟩
  go_wp2
  -- two deferred calls, the last laid first
  refine leaves_cons (f := 253) (args := #[.pointer (some ⟨b, 0, none⟩), .bool true]) (by simp) (by simp [go_sem]) ?_
  refine (store_deferred ⟨b, 0, none⟩ (.int .u32 0) .returning _ g0 z0).mono ?_
  rintro e u' w'' ⟨rfl, rfl, rfl⟩
  refine leaves_cons (f := 252) (args := #[.pointer (some ⟨b, 1, none⟩)]) (by simp [settle]) (by simp [go_sem]) ?_
  refine (unlock_deferred ⟨b, 1, none⟩ _ _ ?_ (by rw [World.frozen?_setCell, World.frozen?_drew]; exact z1)).mono ?_
  · exact (World.cell?_setCell_other _ ⟨b, 0, none⟩ ⟨b, 1, none⟩ _ (by simp)).trans ((World.cell?_drew _ _).trans g1)
  rintro e u' w'' ⟨rfl, rfl, rfl⟩
  simp only [Leaves, settle, results, Tryz.results239]
  refine ⟨.tuple #[], ?_, rfl, w1, hq, g0, g1, rfl⟩
  simp
set_option maxRecDepth 100000 in
set_option maxHeartbeats 1600000 in
theorem do_first (b : Nat) (w : World) (Q : World → Prop)
    (h0 : w.cell? ⟨b, 0, none⟩ = some (.int .u32 0)) (h1 : w.cell? ⟨b, 1, none⟩ = some (.int .i32 0)) (f1 : w.frozen? ⟨b, 1, none⟩ = false)
    (hb : Calls Tryz.prog 217 #[.pointer (some ⟨b, 0, none⟩)] (w.setCell ⟨b, 1, none⟩ (.int .i32 1)) fun e w' => e = .returned (.tuple #[]) ∧ (w'.cell? ⟨b, 0, none⟩ = some (.int .u32 0) ∧ w'.cell? ⟨b, 1, none⟩ = some (.int .i32 1) ∧ w'.frozen? ⟨b, 0, none⟩ = false ∧ w'.frozen? ⟨b, 1, none⟩ = false ∧ Q w')) :
    Calls Tryz.prog 216 #[.pointer (some ⟨b, 0, none⟩), .func (.func 217) #[.pointer (some ⟨b, 0, none⟩)] #[]] w fun e w' => e = .returned (.tuple #[]) ∧
      ∃ w1, Q w1 ∧ w1.cell? ⟨b, 0, none⟩ = some (.int .u32 0) ∧ w1.cell? ⟨b, 1, none⟩ = some (.int .i32 1) ∧ w' = (w1.drew.setCell ⟨b, 0, none⟩ (.int .u32 1)).setCell ⟨b, 1, none⟩ (.int .i32 0) := by
  have hl := run_call_load (P := Tryz.prog) Tryz.func250 (by kernel_rfl) (by kernel_rfl) (by kernel_rfl) .u32 (by kernel_rfl) h0
  have hnot : ∀ (x : Bool) (w : World), (Op.unary .not (.bool x)).run Tryz.prog w = .ok (.bool (!x)) w := fun _ _ => rfl
  have HS := slow_any b w Q h0 h1 f1 hb
  clear h1 f1 hb
  go_enter Tryz.func216, Tryz.ntmps216
  go_wp2_with (first | (go_at_call 239; refine HS.mono ?_; rintro e w' ⟨rfl, hw⟩) | (go_at_call 238; go_in))
  go_end0
  exact ⟨rfl, hw⟩
end Go.Proofs.YtfmcdlbbbmeolaaGreatDoor.Sync
end
section
namespace Go.Proofs.YtfmcdlbbbmeolaaGreatDoor.Sync
open Go.RowKit Go.Lib Go.Proofs.YtfmcdlbbbmeolaaGreatDoorW.PrintWords Go.Proofs.YtfmcdlbbbmeolaaGreatDoorW.PrintLast Go.Proofs.YtfmcdlbbbmeolaaGreatDoorW.PrintMore
attribute [local go_sem ↓] Go.wp_at_zero Go.wp_at_succ
set_option linter.unusedVariables false
set_option linter.unusedSimpArgs false
theorem infoStr : (Tryz.prog.info? 9).map (fun i => (i.zero, i.size, i.bytes)) = some (some (.string ⟨#[]⟩), 1, 16) := by kernel_rfl
theorem make3 (w : World) : ∃ w1, (Instr.makeSlice 34 (.int .i64 0) (.int .i64 3)).run Tryz.prog w = .ok (.slice (some ⟨w.heap.size, 0, none⟩) 0 3) w1 ∧
    Kd.R Kd.string 9 w1 w.heap.size (fun _ => True) (.slice (some ⟨w.heap.size, 0, none⟩) 0 3) [] ∧ w.grownBy w1 none := by
  obtain ⟨i0, hi, hzz⟩ := Option.map_eq_some_iff.1 infoStr
  simp only [Prod.mk.injEq] at hzz
  obtain ⟨hz0, hz1, hz2⟩ := hzz
  obtain ⟨w1, h1, h2, h3⟩ := run_make_own (P := Tryz.prog) w w.heap.size 34 9 i0 (.string ⟨#[]⟩) 1 Tryz.underlying34 hi hz0 hz1 .i64 .i64 3 (by rw [hz2]; decide) (by decide) (Nat.le_refl _)
  exact ⟨w1, h1, ⟨fun _ _ => trivial, [], h2, rfl, fun j p hp => by simp at hp⟩, h3⟩
theorem rep_size : (Tryz.prog.info? 253).map (·.size) = some 257 := by kernel_rfl
theorem zero_size : Tryz.zeroCells253.size = 257 := by kernel_rfl
theorem zero_one : Tryz.zeroCells253.all (·.oneCell') = true := by kernel_rfl
theorem zero_list : Tryz.zeroCells253.toList = List.replicate 257 (.slice none 0 0) := by kernel_rfl
theorem store_rep (w : World) (v : Value) (hv : v.oneCell' = true) :
    (storeCells ⟨w.heap.size, 0, none⟩ (Tryz.zeroCells253.toList.set 256 v)).run Tryz.prog (w.alloc (.cells Tryz.zeroCells253 253)) =
      .ok () (w.alloc (.cells (Tryz.zeroCells253.setIfInBounds 256 v) 253)) := by
  have := run_storeCells_new (P := Tryz.prog) w 253 Tryz.zeroCells253 (Tryz.zeroCells253.setIfInBounds 256 v) (by rw [rep_size, Array.size_setIfInBounds, zero_size]) (by rw [Array.size_setIfInBounds]) (by
    rw [Array.all_eq_true]
    intro i hi
    rw [Array.size_setIfInBounds] at hi
    rw [Array.getElem_setIfInBounds]
    split
    · exact hv
    · exact Array.all_eq_true.1 zero_one i hi)
  rwa [Array.toList_setIfInBounds] at this
def RepBlk (c : Nat) (D : List Nat) (v : Value) (w : World) : Prop :=
  ∃ cs : Array Value, w.heap[c]? = some (.cells cs 253 (0, 0)) ∧ cs.size = 257 ∧ (∀ j, j < 256 → j ∉ D → cs[j]? = some (.slice none 0 0)) ∧ (∀ j, j < 256 → j ∈ D → ∃ a k, cs[j]? = some (.slice (some a) 0 k)) ∧ cs[256]? = some v
theorem RepBlk.cell {c : Nat} {D : List Nat} {v : Value} {w : World} (h : RepBlk c D v w) (j : Nat) (hj : j < 256) (hD : j ∉ D) : w.cell? ⟨c, j, none⟩ = some (.slice none 0 0) := by
  obtain ⟨cs, h1, _, h2, _⟩ := h
  exact (blk_cell h1 j).trans (h2 j hj hD)
theorem RepBlk.cellD {c : Nat} {D : List Nat} {v : Value} {w : World} (h : RepBlk c D v w) (j : Nat) (hj : j < 256) (hD : j ∈ D) : ∃ a k, w.cell? ⟨c, j, none⟩ = some (.slice (some a) 0 k) := by
  obtain ⟨cs, h1, _, _, h2, _⟩ := h
  obtain ⟨a, k, h3⟩ := h2 j hj hD
  exact ⟨a, k, (blk_cell h1 j).trans h3⟩
theorem RepBlk.row {c : Nat} {D : List Nat} {v : Value} {w : World} (h : RepBlk c D v w) : w.cell? ⟨c, 256, none⟩ = some v := by
  obtain ⟨cs, h1, _, _, _, h2⟩ := h
  exact (blk_cell h1 256).trans h2
theorem RepBlk.frozen {c : Nat} {D : List Nat} {v : Value} {w : World} (h : RepBlk c D v w) (j : Nat) : w.frozen? ⟨c, j, none⟩ = false := by
  obtain ⟨cs, h1, _⟩ := h
  exact blk_frozen h1 j
theorem RepBlk.below {c : Nat} {D : List Nat} {v : Value} {w w1 : World} (h : RepBlk c D v w) (hb : Below w.heap.size w w1) : RepBlk c D v w1 := by
  obtain ⟨cs, h1, h2⟩ := h
  exact ⟨cs, blk_below h1 hb, h2⟩
theorem RepBlk.grown {c : Nat} {D : List Nat} {v : Value} {w w1 : World} {row : Option Nat} (h : RepBlk c D v w) (hg : w.grownBy w1 row) (hne : some c ≠ row) : RepBlk c D v w1 := by
  obtain ⟨cs, h1, h2⟩ := h
  exact ⟨cs, blk_grown h1 hg hne, h2⟩
theorem RepBlk.put {c : Nat} {D : List Nat} {v : Value} {w : World} (h : RepBlk c D v w) (u : Value) : RepBlk c D u (w.setCell ⟨c, 256, none⟩ u) := by
  obtain ⟨cs, h1, h2, h3, h4, h5⟩ := h
  refine ⟨_, Go.Joins.block_setCell h1 u, by rw [Array.size_setIfInBounds]; exact h2, fun j hj hD => ?_, fun j hj hD => ?_, ?_⟩
  · rw [Array.getElem?_setIfInBounds, if_neg (by omega)]; exact h3 j hj hD
  · rw [Array.getElem?_setIfInBounds, if_neg (by omega)]; exact h4 j hj hD
  · rw [Array.getElem?_setIfInBounds, if_pos rfl, if_pos (by omega)]
theorem RepBlk.mark {c o k : Nat} {D : List Nat} {v : Value} {w : World} {a : Addr} (h : RepBlk c D v w) (ho : o < 256) : RepBlk c (o :: D) v (w.setCell ⟨c, o, none⟩ (.slice (some a) 0 k)) := by
  obtain ⟨cs, h1, h2, h3, h4, h5⟩ := h
  refine ⟨_, Go.Joins.block_setCell h1 _, by rw [Array.size_setIfInBounds]; exact h2, fun j hj hD => ?_, fun j hj hD => ?_, ?_⟩
  · rw [List.mem_cons, not_or] at hD
    rw [Array.getElem?_setIfInBounds, if_neg (Ne.symm hD.1)]; exact h3 j hj hD.2
  · rw [Array.getElem?_setIfInBounds]
    by_cases e : o = j
    · rw [if_pos e, if_pos (by omega)]; exact ⟨a, k, rfl⟩
    · rw [if_neg e]; rcases List.mem_cons.1 hD with hD | hD
      · exact absurd hD.symm e
      · exact h4 j hj hD
  · rw [Array.getElem?_setIfInBounds, if_neg (by omega)]; exact h5
theorem rep_init (w : World) (v : Value) : RepBlk w.heap.size [] v (w.alloc (.cells (Tryz.zeroCells253.setIfInBounds 256 v) 253)) := by
  have hz : ∀ j, j < 257 → Tryz.zeroCells253[j]? = some (.slice none 0 0) := by
    intro j hj
    rw [← Array.getElem?_toList, zero_list, List.getElem?_replicate, if_pos hj]
  refine ⟨_, heap_alloc_new w _, by rw [Array.size_setIfInBounds, zero_size], fun j hj _ => ?_, fun j _ h => (by cases h), ?_⟩
  · rw [Array.getElem?_setIfInBounds, if_neg (by omega)]
    exact hz j (by omega)
  · rw [Array.getElem?_setIfInBounds, if_pos rfl, if_pos (by rw [zero_size]; decide)]
theorem conv_one (w : World) (b : UInt8) : (convert 37 9 (.slice (some ⟨w.heap.size, 0, none⟩) 1 1)).run Tryz.prog (w.alloc (.cells #[.int .u8 (b.toNat : Nat)] 5)) = .ok (.string ⟨#[b]⟩) (w.alloc (.cells #[.int .u8 (b.toNat : Nat)] 5)) := by
  refine run_convert_bytes_back (w.alloc (.cells #[.int .u8 (b.toNat : Nat)] 5)) 37 9 5 ⟨w.heap.size, 0, none⟩ 1 [b] Tryz.underlying37 Tryz.underlying5 Tryz.underlying9 (fun j hj => ?_)
  obtain rfl : j = 0 := by simp at hj; omega
  rw [show (⟨w.heap.size, 0, none⟩ : Addr).add 0 = ⟨w.heap.size, 0, none⟩ from rfl, Lib.cell_of_heap (heap_alloc_last w _)]; rfl
def gone : Nat → List ByteArray
  | 0 => []
  | 1 => [⟨#[13]⟩]
  | 2 => [⟨#[13]⟩, ⟨#[10]⟩]
  | _ => [⟨#[13]⟩, ⟨#[10]⟩, ⟨#[9]⟩]
def goneB : Nat → List Nat
  | 0 => []
  | 1 => [13]
  | 2 => [10, 13]
  | _ => [9, 10, 13]
end Go.Proofs.YtfmcdlbbbmeolaaGreatDoor.Sync
end
section
namespace Go.Proofs.YtfmcdlbbbmeolaaGreatDoor.Sync
open Go.RowKit Go.Lib Go.Proofs.YtfmcdlbbbmeolaaGreatDoorW.PrintWords Go.Proofs.YtfmcdlbbbmeolaaGreatDoorW.PrintLast Go.Proofs.YtfmcdlbbbmeolaaGreatDoorW.PrintMore
set_option linter.unusedVariables false
set_option linter.unusedSimpArgs false
theorem rep_round {B c o k : Nat} {D : List Nat} {v v1 : Value} {xs1 : List ByteArray} {W w1 w2 : World} {a : Addr} (hA : RepBlk c D v W) (hR : Kd.R Kd.string 9 W B (fun _ => True) v xs1) {xs2 : List ByteArray}
    (h2 : Kd.R Kd.string 9 w1 B (fun _ => True) v1 xs2) (hg : W.grownBy w1 v.ownBlock) (hb : Below (w1.setCell ⟨c, 256, none⟩ v1).heap.size (w1.setCell ⟨c, 256, none⟩ v1) w2) (ho : o < 256) :
    RepBlk c (o :: D) v1 (w2.setCell ⟨c, o, none⟩ (.slice (some a) 0 k)) ∧ Kd.R Kd.string 9 (w2.setCell ⟨c, o, none⟩ (.slice (some a) 0 k)) B (fun _ => True) v1 xs2 := by
  obtain ⟨cs, e1, e2⟩ := hA
  have hne : some c ≠ v.ownBlock := Kd.R_ne hR e1 (by decide)
  have hA1 : RepBlk c D v w1 := RepBlk.grown ⟨cs, e1, e2⟩ hg hne
  obtain ⟨cs1, f1, f2⟩ := hA1
  have hP : RepBlk c D v1 (w1.setCell ⟨c, 256, none⟩ v1) := RepBlk.put ⟨cs1, f1, f2⟩ v1
  have hR1 := Kd.R_set h2 f1 (by decide) 256 v1
  have hP2 := hP.below hb
  have hR2 := Kd.R_below hR1 hb
  obtain ⟨cs2, g1, g2⟩ := hP2
  exact ⟨RepBlk.mark ⟨cs2, g1, g2⟩ ho, Kd.R_set hR2 g1 (by decide) o _⟩
theorem rep_ne {B c : Nat} {D : List Nat} {v : Value} {xs : List ByteArray} {w : World} (h : RepBlk c D v w) (hR : Kd.R Kd.string 9 w B (fun _ => True) v xs) : some c ≠ v.ownBlock := by
  obtain ⟨cs, e1, _⟩ := h
  exact Kd.R_ne hR e1 (by decide)
theorem conv_empty (w : World) : ∃ k w1, (convert 9 37 (.string ⟨#[]⟩)).run Tryz.prog w = .ok (.slice (some ⟨w.heap.size, 0, none⟩) 0 k) w1 ∧ Below w.heap.size w w1 := by
  have h := run_bytes_of_string (P := Tryz.prog) w 9 37 5 ⟨#[]⟩ Tryz.underlying9 Tryz.underlying37 Tryz.underlying5
  exact ⟨_, _, h, Below.alloc (below_drew (Below.refl _ _)) (Nat.le_refl _) _⟩
set_option maxRecDepth 100000 in
set_option maxHeartbeats 3200000 in
theorem build_calls (b g cap : Nat) (w : World) (h4 : w.cell? ⟨b, 4, none⟩ = some (.slice (some ⟨g, 0, none⟩) 6 cap))
    (g0 : w.cell? ⟨g, 0, none⟩ = some (.string ⟨#[9]⟩)) (g1 : w.cell? ⟨g, 1, none⟩ = some (.string ⟨#[]⟩)) (g2 : w.cell? ⟨g, 2, none⟩ = some (.string ⟨#[10]⟩)) (g3 : w.cell? ⟨g, 3, none⟩ = some (.string ⟨#[]⟩)) (g4 : w.cell? ⟨g, 4, none⟩ = some (.string ⟨#[13]⟩)) (g5 : w.cell? ⟨g, 5, none⟩ = some (.string ⟨#[]⟩)) :
    Calls Tryz.prog 240 #[.pointer (some ⟨b, 0, none⟩)] w fun e w' => (∃ c v, e = .returned (.iface 254 (.pointer (some ⟨c, 0, none⟩))) ∧ RepBlk c (goneB 3) v w' ∧ Kd.R Kd.string 9 w' w.heap.size (fun _ => True) v (gone 3)) ∧ Below w.heap.size w w' := by
  obtain ⟨w1, hmk, hown, hgr⟩ := make3 w
  have HO := Aside0.mk hown
  have HG := Aside0.mk hgr
  clear hown hgr
  go_enter Tryz.func240, Tryz.ntmps240
  go_wp2
  go_rounds 4
  rw [store_rep w1 (.slice (some ⟨w.heap.size, 0, none⟩) 0 3) rfl]
  clear hmk
  simp only [Result.andThen]
  rw [Oper.upon_skip]
  go_wp2
  have HI := Aside0.mk (rep_init w1 (.slice (some ⟨w.heap.size, 0, none⟩) 0 3))
  have HB := Aside0.mk (((Below.refl _ w).grown HG.out (Nat.le_refl _) (fun k h => by cases h)).alloc HG.out.size (.cells (Tryz.zeroCells253.setIfInBounds 256 (.slice (some ⟨w.heap.size, 0, none⟩) 0 3)) 253))
  have HR := Aside0.mk (Kd.R_alloc HO.out (.cells (Tryz.zeroCells253.setIfInBounds 256 (.slice (some ⟨w.heap.size, 0, none⟩) 0 3)) 253))
  have HC := Aside0.mk HG.out.size
  obtain ⟨c, hc⟩ : ∃ c, w1.heap.size = c := ⟨_, rfl⟩
  rw [hc] at HI HC ⊢
  clear HO HG
  go_loopw [12] (fun i wr => ∃ (n : Nat) (v : Value), n ≤ 3 ∧ i = .int .i64 (4 - 2 * (n : Int)) ∧ Aside0 (RepBlk c (goneB n) v wr) ∧ Aside0 (Kd.R Kd.string 9 wr w.heap.size (fun _ => True) v (gone n)) ∧ Aside0 (Below w.heap.size w wr))
    (fun i _ => (RowKit.intOf i + 2).toNat)
  case atStart => exact ⟨0, _, by decide, rfl, HI, HR, HB⟩
  case round =>
    clear HI HR HB
    obtain ⟨n, v, hn, rfl, HI, HR, HB⟩ := hrel
    have hgl : g < w.heap.size := World.block_lt_of_cell? _ _ g0
    have q0 := pw_cell_below HB.out g0
    have q1 := pw_cell_below HB.out g1
    have q2 := pw_cell_below HB.out g2
    have q3 := pw_cell_below HB.out g3
    have q4 := pw_cell_below HB.out g4
    have q5 := pw_cell_below HB.out g5
    clear g0 g1 g2 g3 g4 g5 h4 hgl
    have hnn := fun w => Lib.run_eql_slice_nil_nil (P := Tryz.prog) w (t := 37) 0 0 Tryz.underlying37
    rcases n with _ | _ | _ | _ | n
    · have k0 := HI.out.cell 13 (by decide) (by decide)
      have k1 := HI.out.row
      have b13 : ∀ h : 0 < (⟨#[13]⟩ : ByteArray).size, ((⟨#[13]⟩ : ByteArray)[0]'h).toNat = 13 := fun _ => rfl
      have hcv : ∀ w : World, (convert 37 9 (.slice (some ⟨w.heap.size, 0, none⟩) 1 1)).run Tryz.prog (w.alloc (.cells #[.int .u8 13] 5)) = .ok (.string ⟨#[13]⟩) (w.alloc (.cells #[.int .u8 13] 5)) := fun w => conv_one w 13
      have HNE := Aside0.mk (rep_ne HI.out HR.out)
      have HR2 := Aside0.mk (Kd.R_alloc HR.out (.cells #[.int .u8 13] 5))
      have HI2 := Aside0.mk (HI.out.below (below_alloc (Below.refl _ _) (.cells #[.int .u8 13] 5)))
      have HB2 := Aside0.mk (HB.out.alloc HB.out.size (.cells #[.int .u8 13] 5))
      go_wp2_with (at_builtin; refine Kd.R_append Kd.string (w0 := w) (W := wr.alloc (.cells #[.int .u8 13] 5)) w.heap.size rfl (.tmp 119) (.tmp 123) 34 9 (.string ⟨#[]⟩) 16 rfl Tryz.underlying34 infoStr rfl (by decide) (by omega) _ (gone 0) ⟨#[13]⟩ [.string ⟨#[13]⟩] (fun _ => True) (fun _ => False) rfl (by rw [World.size_alloc]; rfl) rfl (fun _ h => h.elim) (fun _ _ => trivial) HR2.out HB2.out HB2.out.size (by decide) ?_; intro v9 w9 hR9 hb9 hg9 hat9; obtain ⟨A9, c9, e9⟩ := Kd.R_slice hR9; replace e9 : v9 = .slice A9 1 c9 := e9; subst e9; have HR9 := Aside0.mk hR9; have HB9 := Aside0.mk hb9; have HG9 := Aside0.mk hg9; have HI9 := Aside0.mk (HI2.out.grown hg9 HNE.out); clear hR9 hb9 hg9 hat9; have c256 := HI9.out.row; have z256 := HI9.out.frozen 256; obtain ⟨k5, w5, hcv5, hb5⟩ := conv_empty (w9.setCell ⟨c, 256, none⟩ (.slice A9 1 c9)); have HB5 := Aside0.mk hb5; have c13 := ((HI9.out.put (.slice A9 1 c9)).below hb5).cell 13 (by decide) (by decide); have z13 := ((HI9.out.put (.slice A9 1 c9)).below hb5).frozen 13; clear hb5)
      obtain ⟨q1, q2⟩ := rep_round (o := 13) (k := k5) (a := ⟨w9.heap.size, 0, none⟩) HI2.out HR2.out HR9.out HG9.out HB5.out (by decide)
      exact ⟨⟨1, _, by decide, rfl, ⟨q1⟩, ⟨q2⟩, ⟨((HB9.out.setCell HC.out _).trans (HB5.out.mono (HB9.out.setCell HC.out _).size)).setCell HC.out _⟩⟩, by simp [RowKit.intOf]⟩
    · have k0 := HI.out.cell 10 (by decide) (by decide)
      have k1 := HI.out.row
      have b13 : ∀ h : 0 < (⟨#[10]⟩ : ByteArray).size, ((⟨#[10]⟩ : ByteArray)[0]'h).toNat = 10 := fun _ => rfl
      have hcv : ∀ w : World, (convert 37 9 (.slice (some ⟨w.heap.size, 0, none⟩) 1 1)).run Tryz.prog (w.alloc (.cells #[.int .u8 10] 5)) = .ok (.string ⟨#[10]⟩) (w.alloc (.cells #[.int .u8 10] 5)) := fun w => conv_one w 10
      have HNE := Aside0.mk (rep_ne HI.out HR.out)
      have HR2 := Aside0.mk (Kd.R_alloc HR.out (.cells #[.int .u8 10] 5))
      have HI2 := Aside0.mk (HI.out.below (below_alloc (Below.refl _ _) (.cells #[.int .u8 10] 5)))
      have HB2 := Aside0.mk (HB.out.alloc HB.out.size (.cells #[.int .u8 10] 5))
      go_wp2_with (at_builtin; refine Kd.R_append Kd.string (w0 := w) (W := wr.alloc (.cells #[.int .u8 10] 5)) w.heap.size rfl (.tmp 119) (.tmp 123) 34 9 (.string ⟨#[]⟩) 16 rfl Tryz.underlying34 infoStr rfl (by decide) (by omega) _ (gone 1) ⟨#[10]⟩ [.string ⟨#[10]⟩] (fun _ => True) (fun _ => False) rfl (by rw [World.size_alloc]; rfl) rfl (fun _ h => h.elim) (fun _ _ => trivial) HR2.out HB2.out HB2.out.size (by decide) ?_; intro v9 w9 hR9 hb9 hg9 hat9; obtain ⟨A9, c9, e9⟩ := Kd.R_slice hR9; replace e9 : v9 = .slice A9 2 c9 := e9; subst e9; have HR9 := Aside0.mk hR9; have HB9 := Aside0.mk hb9; have HG9 := Aside0.mk hg9; have HI9 := Aside0.mk (HI2.out.grown hg9 HNE.out); clear hR9 hb9 hg9 hat9; have c256 := HI9.out.row; have z256 := HI9.out.frozen 256; obtain ⟨k5, w5, hcv5, hb5⟩ := conv_empty (w9.setCell ⟨c, 256, none⟩ (.slice A9 2 c9)); have HB5 := Aside0.mk hb5; have c13 := ((HI9.out.put (.slice A9 2 c9)).below hb5).cell 10 (by decide) (by decide); have z13 := ((HI9.out.put (.slice A9 2 c9)).below hb5).frozen 10; clear hb5)
      obtain ⟨q1, q2⟩ := rep_round (o := 10) (k := k5) (a := ⟨w9.heap.size, 0, none⟩) HI2.out HR2.out HR9.out HG9.out HB5.out (by decide)
      exact ⟨⟨2, _, by decide, rfl, ⟨q1⟩, ⟨q2⟩, ⟨((HB9.out.setCell HC.out _).trans (HB5.out.mono (HB9.out.setCell HC.out _).size)).setCell HC.out _⟩⟩, by simp [RowKit.intOf]⟩
    · have k0 := HI.out.cell 9 (by decide) (by decide)
      have k1 := HI.out.row
      have b13 : ∀ h : 0 < (⟨#[9]⟩ : ByteArray).size, ((⟨#[9]⟩ : ByteArray)[0]'h).toNat = 9 := fun _ => rfl
      have hcv : ∀ w : World, (convert 37 9 (.slice (some ⟨w.heap.size, 0, none⟩) 1 1)).run Tryz.prog (w.alloc (.cells #[.int .u8 9] 5)) = .ok (.string ⟨#[9]⟩) (w.alloc (.cells #[.int .u8 9] 5)) := fun w => conv_one w 9
      have HNE := Aside0.mk (rep_ne HI.out HR.out)
      have HR2 := Aside0.mk (Kd.R_alloc HR.out (.cells #[.int .u8 9] 5))
      have HI2 := Aside0.mk (HI.out.below (below_alloc (Below.refl _ _) (.cells #[.int .u8 9] 5)))
      have HB2 := Aside0.mk (HB.out.alloc HB.out.size (.cells #[.int .u8 9] 5))
      go_wp2_with (at_builtin; refine Kd.R_append Kd.string (w0 := w) (W := wr.alloc (.cells #[.int .u8 9] 5)) w.heap.size rfl (.tmp 119) (.tmp 123) 34 9 (.string ⟨#[]⟩) 16 rfl Tryz.underlying34 infoStr rfl (by decide) (by omega) _ (gone 2) ⟨#[9]⟩ [.string ⟨#[9]⟩] (fun _ => True) (fun _ => False) rfl (by rw [World.size_alloc]; rfl) rfl (fun _ h => h.elim) (fun _ _ => trivial) HR2.out HB2.out HB2.out.size (by decide) ?_; intro v9 w9 hR9 hb9 hg9 hat9; obtain ⟨A9, c9, e9⟩ := Kd.R_slice hR9; replace e9 : v9 = .slice A9 3 c9 := e9; subst e9; have HR9 := Aside0.mk hR9; have HB9 := Aside0.mk hb9; have HG9 := Aside0.mk hg9; have HI9 := Aside0.mk (HI2.out.grown hg9 HNE.out); clear hR9 hb9 hg9 hat9; have c256 := HI9.out.row; have z256 := HI9.out.frozen 256; obtain ⟨k5, w5, hcv5, hb5⟩ := conv_empty (w9.setCell ⟨c, 256, none⟩ (.slice A9 3 c9)); have HB5 := Aside0.mk hb5; have c13 := ((HI9.out.put (.slice A9 3 c9)).below hb5).cell 9 (by decide) (by decide); have z13 := ((HI9.out.put (.slice A9 3 c9)).below hb5).frozen 9; clear hb5)
      obtain ⟨q1, q2⟩ := rep_round (o := 9) (k := k5) (a := ⟨w9.heap.size, 0, none⟩) HI2.out HR2.out HR9.out HG9.out HB5.out (by decide)
      exact ⟨⟨3, _, by decide, rfl, ⟨q1⟩, ⟨q2⟩, ⟨((HB9.out.setCell HC.out _).trans (HB5.out.mono (HB9.out.setCell HC.out _).size)).setCell HC.out _⟩⟩, by simp [RowKit.intOf]⟩
    · go_wp2
      go_ret
      exact ⟨⟨c, v, rfl, HI.out, HR.out⟩, HB.out⟩
    · omega
theorem RepBlk.far {c b j : Nat} {D : List Nat} {v u : Value} {w : World} (h : RepBlk c D v w) (hne : c ≠ b) : RepBlk c D v (w.setCell ⟨b, j, none⟩ u) := by
  obtain ⟨cs, h1, h2⟩ := h
  exact ⟨cs, blk_far h1 (p := ⟨b, j, none⟩) hne u, h2⟩
theorem RepBlk.ne {c b t : Nat} {D : List Nat} {v : Value} {w : World} {cs : Array Value} (h : RepBlk c D v w) (hb : w.heap[b]? = some (.cells cs t (0, 0))) (ht : t ≠ 253) : c ≠ b := by
  obtain ⟨cs', h1, _⟩ := h
  rintro rfl
  rw [hb] at h1
  injection h1 with h1; injection h1 with _ h1
  exact ht h1
set_option maxRecDepth 100000 in
set_option maxHeartbeats 3200000 in
theorem once_calls (b g cap : Nat) (w0 w : World) (hB : Below w0.heap.size w0 w) (hb0 : w0.heap.size ≤ b) (hb : w.heap[b]? = some (.cells #[.int .u32 0, .int .i32 1, .int .u32 0, .nilIface, .slice (some ⟨g, 0, none⟩) 6 cap] 217 (0, 0)))
    (g0 : w.cell? ⟨g, 0, none⟩ = some (.string ⟨#[9]⟩)) (g1 : w.cell? ⟨g, 1, none⟩ = some (.string ⟨#[]⟩)) (g2 : w.cell? ⟨g, 2, none⟩ = some (.string ⟨#[10]⟩)) (g3 : w.cell? ⟨g, 3, none⟩ = some (.string ⟨#[]⟩)) (g4 : w.cell? ⟨g, 4, none⟩ = some (.string ⟨#[13]⟩)) (g5 : w.cell? ⟨g, 5, none⟩ = some (.string ⟨#[]⟩)) :
    Calls Tryz.prog 217 #[.pointer (some ⟨b, 0, none⟩)] w fun e w' => e = .returned (.tuple #[]) ∧ ∃ c v, w'.heap[b]? = some (.cells #[.int .u32 0, .int .i32 1, .int .u32 0, .iface 254 (.pointer (some ⟨c, 0, none⟩)), .slice none 0 0] 217 (0, 0)) ∧
      RepBlk c (goneB 3) v w' ∧ Kd.R Kd.string 9 w' w0.heap.size (fun _ => True) v (gone 3) ∧ Below w0.heap.size w0 w' := by
  have HBc := Aside0.mk (build_calls b g cap w ((blk_cell hb 4).trans rfl) g0 g1 g2 g3 g4 g5)
  have HB := Aside0.mk hB
  have HH := Aside0.mk hb
  have HB0 := Aside0.mk hb0
  clear hB hb g0 g1 g2 g3 g4 g5 hb0
  go_enter Tryz.func217, Tryz.ntmps217
  go_wp2_with (go_at_call 240; refine HBc.out.mono ?_; rintro e w1 ⟨⟨c, v, rfl, hA, hR⟩, hb1⟩; have HA := Aside0.mk hA; have HR := Aside0.mk hR; have H1 := Aside0.mk (blk_below HH.out hb1); have HB1 := Aside0.mk (HB.out.trans (hb1.mono HB.out.size)); clear hA hR hb1; have x3 := (blk_cell H1.out 3).trans rfl; have z3 := blk_frozen H1.out 3; have x4 := (blk_cell H1.out 4).trans rfl; have z4 := blk_frozen H1.out 4)
  go_end0
  have hne : c ≠ b := HA.out.ne H1.out (by decide)
  have h1 := Go.Joins.block_setCell (i := 3) H1.out (.iface 254 (.pointer (some ⟨c, 0, none⟩)))
  exact ⟨rfl, c, v, (Go.Joins.block_setCell (i := 4) h1 (.slice none 0 0)).trans rfl, (HA.out.far hne).far hne, Kd.R_lower (Kd.R_set (Kd.R_set HR.out H1.out (by decide) 3 _) h1 (by decide) 4 _) HB.out.size, (HB1.out.setCell HB0.out _).setCell HB0.out _⟩
def olds : List ByteArray := [⟨#[9]⟩, ⟨#[]⟩, ⟨#[10]⟩, ⟨#[]⟩, ⟨#[13]⟩, ⟨#[]⟩]
theorem C_olds (w : World) : Kd.C Kd.string (w.alloc (.cells #[.string ⟨#[9]⟩, .string ⟨#[]⟩, .string ⟨#[10]⟩, .string ⟨#[]⟩, .string ⟨#[13]⟩, .string ⟨#[]⟩] 9)) (some ⟨w.heap.size, 0, none⟩) 6 olds := by
  have h := heap_alloc_new w (.cells #[.string ⟨#[9]⟩, .string ⟨#[]⟩, .string ⟨#[10]⟩, .string ⟨#[]⟩, .string ⟨#[13]⟩, .string ⟨#[]⟩] 9)
  refine ⟨rfl, by decide, fun _ => ⟨⟨w.heap.size, 0, none⟩, rfl, fun j p hp => ⟨[.string p], rfl, rfl, fun i u hu => ?_⟩⟩⟩
  have hi : i < 1 := (List.getElem?_eq_some_iff.1 hu).1
  obtain rfl : i = 0 := by omega
  obtain rfl : Value.string p = u := by simpa using hu
  have hc : (w.alloc (.cells #[.string ⟨#[9]⟩, .string ⟨#[]⟩, .string ⟨#[10]⟩, .string ⟨#[]⟩, .string ⟨#[13]⟩, .string ⟨#[]⟩] 9)).cell? ⟨w.heap.size, j, none⟩ = (#[Value.string ⟨#[9]⟩, .string ⟨#[]⟩, .string ⟨#[10]⟩, .string ⟨#[]⟩, .string ⟨#[13]⟩, .string ⟨#[]⟩] : Array Value)[j]? := blk_cell h j
  have e : (⟨w.heap.size, 0, none⟩ : Addr).add (j * 1 + 0) = ⟨w.heap.size, j, none⟩ := by simp [Addr.add]; intro h; exact h.symm
  rw [show Kd.sz Kd.string = 1 from rfl, e, hc]
  have hj : j < 6 := (List.getElem?_eq_some_iff.1 hp).1
  obtain rfl | rfl | rfl | rfl | rfl | rfl : j = 0 ∨ j = 1 ∨ j = 2 ∨ j = 3 ∨ j = 4 ∨ j = 5 := by omega
  all_goals (obtain rfl := Option.some.inj hp; rfl)
theorem olds_at {w : World} {A : Option Addr} (h : Kd.C Kd.string w A 6 olds) (j : Nat) (p : ByteArray) (hj : olds[j]? = some p) : ∃ ad, A = some ad ∧ w.cell? (ad.add j) = some (.string p) := by
  obtain ⟨_, _, h3⟩ := h
  obtain ⟨ad, e, h4⟩ := h3 (by decide)
  obtain ⟨c, h5, h6, h7⟩ := h4 j p hj
  refine ⟨ad, e, ?_⟩
  have h8 : c = [.string p] := h6
  subst h8
  have := h7 0 _ rfl
  rwa [show Kd.sz Kd.string = 1 from rfl, Nat.mul_one, Nat.add_zero] at this
set_option maxRecDepth 100000 in
set_option maxHeartbeats 3200000 in
theorem new_calls (a : Addr) (cp : Nat) (w : World) (hC : Kd.C Kd.string w (some a) 6 olds) :
    Calls Tryz.prog 181 #[.slice (some a) 6 cp] w fun e w' => ∃ b g cap, e = .returned (.pointer (some ⟨b, 0, none⟩)) ∧ w.heap.size ≤ b ∧ w'.heap[b]? = some (.cells #[.int .u32 0, .int .i32 0, .int .u32 0, .nilIface, .slice (some ⟨g, 0, none⟩) 6 cap] 217 (0, 0)) ∧
      Kd.C Kd.string w' (some ⟨g, 0, none⟩) 6 olds ∧ g ≠ b ∧ Below w.heap.size w w' := by
  have HC := Aside0.mk hC
  have HB := Aside0.mk (Below.refl w.heap.size w)
  clear hC
  go_enter Tryz.func181, Tryz.ntmps181
  go_wp2_with (at_builtin; refine Kd.R_append_rows Kd.string (w0 := w) w.heap.size rfl (.const (.slice none 0 0)) (.tmp 8) 34 9 (.string ⟨#[]⟩) 16 rfl Tryz.underlying34 infoStr rfl (by decide) (by decide) (.slice none 0 0) [] olds (some a) 6 cp (fun _ => True) (fun _ => False) rfl rfl (Kd.R_nil _ _ _ _ _) HC.out (fun _ _ h => h) (fun _ h => h.elim) (fun _ _ => trivial) HB.out HB.out.size (by decide) ?_; intro v9 w9 hR9 hB9 hgr hat; rw [List.nil_append] at hR9; obtain ⟨g9, c9, e9, _, hlt9, _⟩ := Kd.R_form hR9 (by decide); have HLT9 := Aside0.mk hlt9; clear hlt9; replace e9 : v9 = .slice (some ⟨g9, 0, none⟩) 6 c9 := e9; subst e9; have HR9 := Aside0.mk hR9; have HB9 := Aside0.mk hB9; clear hR9 hB9 hgr hat)
  go_ret
  exact ⟨_, g9, c9, rfl, HB9.out.size, heap_alloc_new w9 _, Kd.C_below (Kd.R_reads' HR9.out).2.2 (below_alloc (Below.refl _ _) _), Nat.ne_of_lt HLT9.out, HB9.out.alloc HB9.out.size _⟩
end Go.Proofs.YtfmcdlbbbmeolaaGreatDoor.Sync
end
