/- UrlTwice: the printed function's plain law. -/
import Derived.Test.YtfncppekjgbedaaDoorPUrl
import Derived.Test.YtfncppekjgbedaaDoorXU1
namespace Go.Proofs.YtfncppekjgbedaaDoor.Pure
open Go.RowKit Go.Proofs.YtfncppekjgbedaaDoor.XU Go.Proofs.YtfncppekjgbedaaDoor.Ext Go.Proofs.YtfncppekjgbedaaDoor.Sync Go.Proofs.YtfncppekjgbedaaDoor.Utf Go.Proofs.YtfncppekjgbedaaDoor.Base Go.Proofs.YtfncppekjgbedaaDoorW.PrintWords Go.Proofs.YtfncppekjgbedaaDoorW.PrintLast
set_option linter.unusedVariables false
set_option linter.unusedSimpArgs false

theorem awake9 : stolelaw9_awake.f = some true := by decide +kernel
def pl (l : List UInt8) : Bool := l.all fun b => b != 37
theorem start_size (s : ByteArray) : (startS s).size ≤ 9 * s.size + 9 := by
  have h1 := normS_size s
  have h2 := wrL_len moreSet (normS s).data.toList
  have h3 : (normS s).data.toList.length = (normS s).size := rfl
  have h4 : (startS s).size = (startS s).data.toList.length := rfl
  rw [h4]
  unfold startS
  simp only
  split
  · have : refused.length = 9 := rfl
    omega
  · omega
theorem part_size (s : ByteArray) : (partS s).size ≤ 9 * s.size := by
  have h1 := normS_size s
  have h2 := wrL_len keepSet (normS s).data.toList
  have h3 : (normS s).data.toList.length = (normS s).size := rfl
  have h4 : (partS s).size = (wrL keepSet (normS s).data.toList).length := rfl
  omega
theorem start_f (s : ByteArray) (h : s.size ≤ 15000000000000) : url_Start.f s = some (startS s) := by unfold url_Start.f; rw [if_pos h]
theorem part_f (s : ByteArray) (h : s.size ≤ 15000000000000) : url_Part.f s = some (partS s) := by unfold url_Part.f; rw [if_pos h]
theorem scheme_f (s : ByteArray) (h : s.size ≤ 140737488355328) : url_Scheme.f s = some (⟨(schS s).1.toArray⟩, (schS s).2) := by unfold url_Scheme.f; rw [if_pos h]
theorem bt_at (s : ByteArray) (i : Nat) (h : i < s.size) : ∃ b : UInt8, s.data.toList[i]'h = b ∧ bt s (i : Int) = (b.toNat : Int) := by
  have hl : i < s.data.toList.length := h
  refine ⟨_, rfl, ?_⟩
  rw [bt_list s i h, List.getD_eq_getElem?_getD, List.getElem?_eq_getElem hl]; rfl
theorem ne_list {a b : ByteArray} : (a.toList == b.toList) = decide (a = b) := by
  rw [ByteArray.toList_eq, ByteArray.toList_eq]
  by_cases h : a = b
  · subst h; simp
  · rw [decide_eq_false h]
    have : ¬ a.data.toList = b.data.toList := fun e => h (ext_bytes e)
    simpa using this
theorem twice_l0 (x y : ByteArray) (hx : startS x = x) (hxs : x.size ≤ 15000000000000) (hys : y.size ≤ 15000000000000) (hy : partS y = y ↔ ∀ b ∈ y.data.toList, b ≠ 37) : ∀ d i, i + d = y.size →
    Ev (fun k => stolelaw9_UrlTwice.l0 k x y (pl (y.data.toList.take i)) (i : Int)) true := by
  intro d
  induction d with
  | zero =>
    intro i hi
    refine Ev.step (f := fun k => _) (fun k => by rw [stolelaw9_UrlTwice.l0]) ?_
    refine Ev.neg (by omega) (Ev.bindC (start_f x hxs) (Ev.pos (by rw [hx]) (Ev.bindC (part_f y hys) (Ev.pos ?_ (Ev.bindC (s := 0) rfl (Ev.ofSome rfl))))))
    rw [List.take_of_length_le (show y.data.toList.length ≤ i by have : y.data.toList.length = y.size := rfl; omega), ne_list]
    by_cases h : partS y = y
    · have : pl y.data.toList = true := by unfold pl; rw [List.all_eq_true]; intro b hb; simpa using hy.1 h b hb
      rw [this, decide_eq_true h]; rfl
    · have : pl y.data.toList = false := by
        rw [Bool.eq_false_iff]; intro e; apply h; rw [hy]; intro b hb
        unfold pl at e; rw [List.all_eq_true] at e; simpa using e b hb
      rw [this, decide_eq_false h]; rfl
  | succ d ih =>
    intro i hi
    have hlt : i < y.size := by omega
    obtain ⟨b, hb, hbt⟩ := bt_at y i hlt
    have h := ih (i + 1) (by omega)
    have hp : pl (y.data.toList.take (i + 1)) = (pl (y.data.toList.take i) && (b != 37)) := by
      rw [List.take_succ_eq_append_getElem (show i < y.data.toList.length from hlt), hb]; unfold pl; rw [List.all_append]; simp
    rw [hp] at h
    refine Ev.step (f := fun k => _) (fun k => by rw [stolelaw9_UrlTwice.l0]) ?_
    refine Ev.pos (by omega) ?_
    rw [wrap_next (n := 100000000000000) (by omega) (by decide), hbt]
    cases hq : pl (y.data.toList.take i) with
    | true =>
      rw [hq, Bool.true_and] at h
      refine Ev.pos rfl (Ev.pos (by omega) ?_)
      have e : ((b.toNat : Int) != 37) = (b != 37) := by
        by_cases h37 : b = 37
        · subst h37; rfl
        · have h2 : ¬ b.toNat = 37 := fun e => h37 (UInt8.toNat_inj.1 e)
          have h3 : ((b.toNat : Int) != 37) = true := by rw [bne_iff_ne]; omega
          rw [h3]; symm; rw [bne_iff_ne]; exact h37
      rw [e]; exact h
    | false =>
      rw [hq, Bool.false_and] at h
      exact Ev.neg (by decide) h
theorem UrlTwice (s : ByteArray) (_ : s.size ≤ 140737488351232) (hb : s.size ≤ 1048576) : ∃ k, stolelaw9_UrlTwice.f k s = some true := by
  have h1 := start_size s
  have h2 := part_size s
  have hE : Ev (fun k => stolelaw9_UrlTwice.f k s) true := by
    unfold stolelaw9_UrlTwice.f
    refine Ev.bindC awake9 (Ev.pos rfl (Ev.bindC (start_f s (by omega)) (Ev.bindC (part_f s (by omega)) ?_)))
    exact twice_l0 (startS s) (partS s) (start_twice s) (by omega) (by omega) (part_twice s) (partS s).size 0 (by omega)
  obtain ⟨n, hn⟩ := hE
  exact ⟨n, hn n (Nat.le_refl _)⟩
end Go.Proofs.YtfncppekjgbedaaDoor.Pure
