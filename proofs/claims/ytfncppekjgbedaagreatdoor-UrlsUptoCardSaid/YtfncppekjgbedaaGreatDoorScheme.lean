/- url.Scheme: walked. -/
import Derived.Test.YtfncppekjgbedaaGreatDoorWritten
import Derived.Deep.CutBlock
namespace Go.Proofs.YtfncppekjgbedaaGreatDoor.Sync
open Go.RowKit Go.Lib Go.Proofs.YtfncppekjgbedaaGreatDoor.Base Go.Proofs.YtfncppekjgbedaaGreatDoorW.PrintWords Go.Proofs.YtfncppekjgbedaaGreatDoorW.PrintLast Go.Proofs.YtfncppekjgbedaaGreatDoorW.PrintMore
open Go.Proofs.YtfncppekjgbedaaGreatDoor.Ext (lower_calls lowB)
set_option linter.unusedVariables false
set_option linter.unusedSimpArgs false

theorem cut_size (s : ByteArray) : (cutS s).size ≤ s.size := by
  have h1 : (cutS s).size = ((stripL s.data.toList).filter fun b => !brk b).length := rfl
  have h2 : ((stripL s.data.toList).filter fun b => !brk b).length ≤ (stripL s.data.toList).length := List.length_filter_le _ _
  have h3 : (stripL s.data.toList).length ≤ s.data.toList.length := (List.dropWhile_sublist _).length_le
  have h4 : s.data.toList.length = s.size := rfl
  omega
def schSet : List UInt8 := [43, 45, 46]
def pre2 (l : List UInt8) : Nat := (l.takeWhile fun b => inSet schSet b.toNat).length
theorem pre2_le (l : List UInt8) : pre2 l ≤ l.length := (List.takeWhile_sublist _).length_le
theorem pre2_cons (b : UInt8) (l : List UInt8) : pre2 (b :: l) = if inSet schSet b.toNat = true then pre2 l + 1 else 0 := by
  unfold pre2
  rw [List.takeWhile_cons]
  split <;> simp
def schL (t : List UInt8) : List UInt8 × Bool :=
  if t = [] then ([], false)
  else if letN (t.getD 0 0).toNat = false then ([], false)
  else if pre2 t = t.length ∨ t.getD (pre2 t) 0 ≠ 58 then ([], false)
  else ((t.take (pre2 t)).map lowB, true)
set_option maxRecDepth 100000 in
set_option maxHeartbeats 3200000 in
theorem scheme_calls (s : ByteArray) (w : World) (hs : s.size ≤ 140737488355328) :
    Calls Tryz.prog 4 #[.string s] w fun e w' => e = .returned (.tuple #[.string ⟨(schL (cutS s).data.toList).1.toArray⟩, .bool (schL (cutS s).data.toList).2]) ∧ Below w.heap.size w w' := by
  have HDr := Aside0.mk (drop_calls s w hs)
  obtain ⟨t, ht⟩ : ∃ t, cutS s = t := ⟨_, rfl⟩
  rw [ht] at HDr ⊢
  have HTS := Aside0.mk (show t.size ≤ 140737488355328 by rw [← ht]; exact Nat.le_trans (cut_size s) hs)
  clear ht hs
  by_cases h0 : t.size = 0
  · have hte : t.toList.isEmpty = true := by rw [ByteArray.toList_eq, List.length_eq_zero_iff.1 (show t.data.toList.length = 0 from h0)]; rfl
    have hr : schL t.data.toList = ([], false) := by unfold schL; rw [if_pos (List.length_eq_zero_iff.1 h0)]
    have HR := Aside0.mk hr
    clear h0 hr
    go_enter Tryz.func4, Tryz.ntmps4
    go_wp2_with (go_at_call 11; refine HDr.out.mono ?_; rintro e w1 ⟨rfl, hb1⟩)
    go_ret2
    exact ⟨by rw [HR.out]; rfl, hb1⟩
  have h1 : 0 < t.size := by omega
  have hte : t.toList.isEmpty = false := by
    rw [ByteArray.toList_eq]
    cases hq : t.data.toList with
    | nil => exact absurd (show t.size = 0 from (congrArg List.length hq)) h0
    | cons b l => rfl
  have hne : t.data.toList ≠ [] := fun e => h0 (congrArg List.length e)
  obtain ⟨x, hx⟩ : ∃ x : UInt8, (t[0]'h1) = x := ⟨_, rfl⟩
  have hx0 : t.data.toList.getD 0 0 = x := by rw [List.getD_eq_getElem?_getD, List.getElem?_eq_getElem (show 0 < t.data.toList.length from h1)]; exact hx
  have HLt := Aside0.mk (fun w => letter_calls x.toNat w)
  have HNE := Aside0.mk hne
  have HX0 := Aside0.mk hx0
  clear h0 hne hx0
  by_cases hl : letN x.toNat = true
  · rw [hl] at HLt
    have HLX := Aside0.mk hl
    have HOf := Aside0.mk (fun w => of_calls ⟨#[43, 45, 46]⟩ w)
    clear hl
    go_enter Tryz.func4, Tryz.ntmps4
    go_upto_block 0 with (first
      | (go_at_call 11; refine HDr.out.mono ?_; rintro e w1 ⟨rfl, hb1⟩)
      | (go_at_call 12; refine (HLt.out _).mono ?_; rintro e w2 ⟨rfl, rfl⟩)
      | (go_at_call 13; refine (HOf.out _).mono ?_; rintro e w3 ⟨b, rfl, hS3, hb3⟩))
    have HB1 := Aside0.mk hb1
    have HB3 := Aside0.mk (hb1.trans (hb3.mono hb1.size))
    have HS3 := Aside0.mk (show SetAt schSet 128 b w3 from hS3)
    obtain ⟨i, hi⟩ : ∃ i, pre2 t.data.toList = i := ⟨_, rfl⟩
    have hile : i ≤ t.size := by rw [← hi]; exact pre2_le t.data.toList
    have HI := Aside0.mk hi
    clear hb1 hb3 hS3 hi hx h1
    go_cut [5] (fun v5 wc => v5 = .int .i64 i ∧ w3 = wc)
    case first =>
      go_wp2
      go_loopg [5] t.size (fun gg v5 wr => ∃ k : Nat, k ≤ t.size ∧ Aside0 (gg = t.size - k) ∧ v5 = .int .i64 k ∧ Aside0 (k + pre2 (t.data.toList.drop k) = i) ∧ w3 = wr)
      case atStart => exact ⟨0, Nat.zero_le _, ⟨rfl⟩, rfl, ⟨by rw [List.drop_zero, Nat.zero_add]; exact HI.out⟩, rfl⟩
      case round =>
        obtain ⟨k, hk, HK, rfl, HP, rfl⟩ := hrel
        have hts := HTS.out
        by_cases hlt : k < t.size
        · have hkl : k < t.data.toList.length := hlt
          obtain ⟨y, hy⟩ : ∃ y : UInt8, (t[k]'hlt) = y := ⟨_, rfl⟩
          have hyl : t.data.toList[k] = y := hy
          have hpr : pre2 (t.data.toList.drop k) = if inSet schSet y.toNat = true then pre2 (t.data.toList.drop (k + 1)) + 1 else 0 := by rw [List.drop_eq_getElem_cons hkl, pre2_cons, hyl]
          have hy256 : (y.toNat : Int) < 256 := by have := y.toNat_lt; omega
          have hz : (k : Int) < (t.size : Int) := by omega
          have hzb : decide ((k : Int) < (t.size : Int)) = true := decide_eq_true hz
          have HH := Aside0.mk (set_calls HS3.out y.toNat y.toNat_lt)
          by_cases hq : inSet schSet y.toNat = true
          · rw [hq] at HH
            rw [if_pos hq] at hpr
            have HPR := Aside0.mk hpr
            clear hq hpr hyl hkl hile
            go_wp2_with (go_at_call 14; refine HH.out.mono ?_; rintro e w4 ⟨rfl, rfl⟩)
            go_roundg (t.size - (k + 1))
            case rel => exact ⟨k + 1, by omega, ⟨rfl⟩, by go_num, ⟨by have := HP.out; have := HPR.out; omega⟩, rfl⟩
            case measure => have := HK.out; omega
          · have hq2 : inSet schSet y.toNat = false := by simpa using hq
            rw [hq2] at HH
            rw [if_neg hq] at hpr
            have hki : k = i := by have := HP.out; omega
            have HKI := Aside0.mk hki
            clear hq hq2 hpr hyl hkl hile hki
            go_wp2_with (go_at_call 14; refine HH.out.mono ?_; rintro e w4 ⟨rfl, rfl⟩)
            go_meet
            exact ⟨by rw [HKI.out], rfl⟩
        · obtain rfl : k = t.size := by omega
          have hki : t.size = i := by
            have h2 : t.data.toList.drop t.size = [] := List.drop_eq_nil_of_le (Nat.le_refl _)
            have := HP.out
            rw [h2] at this
            exact this
          have HKI := Aside0.mk hki
          have hzb : decide ((t.size : Int) < (t.size : Int)) = false := decide_eq_false (by omega)
          clear hlt hk hki hile
          go_wp2
          go_meet
          exact ⟨by rw [HKI.out], rfl⟩
    case rest =>
      obtain ⟨rfl, rfl⟩ := hcut
      clear HLt HOf HDr
      by_cases he : i = t.size
      · have hr : schL t.data.toList = ([], false) := by unfold schL; rw [if_neg HNE.out, HX0.out, if_neg (by rw [HLX.out]; decide), if_pos (.inl (by rw [HI.out]; exact he))]
        have HR := Aside0.mk hr
        clear hr hile
        subst he
        go_wp2
        go_ret2
        exact ⟨by rw [HR.out]; rfl, HB3.out⟩
      · have hlt : i < t.size := by omega
        obtain ⟨y, hy⟩ : ∃ y : UInt8, (t[i]'hlt) = y := ⟨_, rfl⟩
        have hyl : t.data.toList.getD i 0 = y := by rw [List.getD_eq_getElem?_getD, List.getElem?_eq_getElem (show i < t.data.toList.length from hlt)]; exact hy
        have hz : (i : Int) < (t.size : Int) := by omega
        have hzb : ((i : Int) == (t.size : Int)) = false := by rw [beq_eq_false_iff_ne]; omega
        by_cases h58 : y.toNat = 58
        · have hy58 : y = 58 := UInt8.toNat_inj.1 h58
          have hr : schL t.data.toList = ((t.data.toList.take i).map lowB, true) := by unfold schL; rw [if_neg HNE.out, HX0.out, if_neg (by rw [HLX.out]; decide), if_neg (by rw [HI.out]; rintro (h | h); exact he h; exact h (hyl.trans hy58)), HI.out]
          have HR := Aside0.mk hr
          have hzc : ((y.toNat : Int) != 58) = false := by rw [h58]; rfl
          have hz2 : (i : Int) ≤ (t.size : Int) := by omega
          have HLo := Aside0.mk (fun w => lower_calls (t.extract 0 i) w (Nat.le_trans (show (t.extract 0 i).size ≤ t.size by simp; omega) (Nat.le_trans HTS.out (by decide))))
          have HED := Aside0.mk (show (t.extract 0 i).data.toList = t.data.toList.take i from by rw [Lib.extract_data]; simp)
          clear hr hyl hy58 h58 he hile
          go_wp2_with (go_at_call 15; refine (HLo.out _).mono ?_; rintro e w5 ⟨rfl, hb5⟩)
          go_ret2
          exact ⟨by rw [HR.out, List.map_take]; rfl, HB3.out.trans (hb5.mono HB3.out.size)⟩
        · have hr : schL t.data.toList = ([], false) := by unfold schL; rw [if_neg HNE.out, HX0.out, if_neg (by rw [HLX.out]; decide), if_pos (.inr (by rw [HI.out, hyl]; intro h; exact h58 (by rw [h]; rfl)))]
          have HR := Aside0.mk hr
          have hzc : ((y.toNat : Int) != 58) = true := by rw [bne_iff_ne]; omega
          clear hr hyl h58 he hile
          go_wp2
          go_ret2
          exact ⟨by rw [HR.out]; rfl, HB3.out⟩
  · have hl : letN x.toNat = false := by simpa using hl
    rw [hl] at HLt
    have hr : schL t.data.toList = ([], false) := by unfold schL; rw [if_neg HNE.out, HX0.out, if_pos hl]
    have HR := Aside0.mk hr
    clear hl hr
    go_enter Tryz.func4, Tryz.ntmps4
    go_wp2_with (first
      | (go_at_call 11; refine HDr.out.mono ?_; rintro e w1 ⟨rfl, hb1⟩)
      | (go_at_call 12; refine (HLt.out _).mono ?_; rintro e w2 ⟨rfl, rfl⟩))
    go_ret2
    exact ⟨by rw [HR.out]; rfl, hb1⟩
end Go.Proofs.YtfncppekjgbedaaGreatDoor.Sync
