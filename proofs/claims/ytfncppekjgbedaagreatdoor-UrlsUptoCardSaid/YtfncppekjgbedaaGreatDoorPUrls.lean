/- Urls: the document's Scheme, UrlStart, UrlPart are the plain ones: the printed function's plain law. -/
import Derived.Test.YtfncppekjgbedaaGreatDoorPUrl
import Derived.Test.YtfncppekjgbedaaGreatDoorXU5
import Derived.Test.YtfncppekjgbedaaGreatDoorPNorm
namespace Go.Proofs.YtfncppekjgbedaaGreatDoor.Pure
open Go.RowKit Go.Proofs.YtfncppekjgbedaaGreatDoor.XU Go.Proofs.YtfncppekjgbedaaGreatDoor.Ext Go.Proofs.YtfncppekjgbedaaGreatDoor.Sync Go.Proofs.YtfncppekjgbedaaGreatDoor.Utf Go.Proofs.YtfncppekjgbedaaGreatDoor.Base Go.Proofs.YtfncppekjgbedaaGreatDoorW.PrintWords Go.Proofs.YtfncppekjgbedaaGreatDoorW.PrintLast
set_option linter.unusedVariables false
set_option linter.unusedSimpArgs false

theorem awake9 : stolelaw9_awake.f = some true := by decide +kernel
theorem part_size (s : ByteArray) : (partS s).size ≤ 9 * s.size := by
  have h1 := normS_size s
  have h2 := wrL_len keepSet (normS s).data.toList
  have h3 : (normS s).data.toList.length = (normS s).size := rfl
  have h4 : (partS s).size = (wrL keepSet (normS s).data.toList).length := rfl
  omega
theorem start_f (s : ByteArray) (h : s.size ≤ 15000000000000) : url_Start.f s = some (startS s) := by unfold url_Start.f; rw [if_pos h]
theorem part_f (s : ByteArray) (h : s.size ≤ 15000000000000) : url_Part.f s = some (partS s) := by unfold url_Part.f; rw [if_pos h]
theorem scheme_f (s : ByteArray) (h : s.size ≤ 140737488355328) : url_Scheme.f s = some (⟨(schS s).1.toArray⟩, (schS s).2) := by unfold url_Scheme.f; rw [if_pos h]
theorem refLow_b : ∀ n : Nat, n < 256 → stoleref1_Low.f (n : Int) = some ((lowN n : Nat) : Int) := by decide +kernel
theorem ltr_b : ∀ n : Fin 256, stoleref1_Letter.f (n.val : Int) = some (letN n.val) := by decide +kernel
theorem dgt_b : ∀ n : Fin 256, stoleref1_Digit.f (n.val : Int) = some (digN n.val) := by decide +kernel

/-- Lower: byte for byte. -/
theorem refLower_ev (s : ByteArray) (hs : s.size ≤ 10000000000000) : ∀ (d i : Nat), s.size - i = d → i ≤ s.size →
    Ev (fun k => stoleref1_Lower.l0 k s (nums ((s.data.toList.take i).map lowB) ++ List.replicate (s.size - i) 0) (i : Int)) (⟨(s.data.toList.map lowB).toArray⟩ : ByteArray) := by
  intro d
  induction d with
  | zero =>
    intro i hd hi
    refine Ev.step (f := fun k => _) (fun k => by rw [stoleref1_Lower.l0]) ?_
    refine Ev.neg (by omega) (Ev.cast (Ev.now _) ?_)
    rw [hd, List.replicate_zero, List.append_nil, List.take_of_length_le (by rw [data_length]; omega)]
    exact strOfNums_bytes _
  | succ d ih =>
    intro i hd hi
    refine Ev.step (f := fun k => _) (fun k => by rw [stoleref1_Lower.l0]) ?_
    have hil : i < s.data.toList.length := by rw [data_length]; omega
    have htl : (nums ((s.data.toList.take i).map lowB)).length = i := by unfold nums; rw [List.length_map, List.length_map, List.length_take, data_length]; omega
    refine Ev.pos (by omega) (Ev.pos (by omega) ?_)
    rw [bt_B]
    refine Ev.bindC (refLow_b _ (B_lt s i)) (Ev.pos (by rw [List.length_append, htl, List.length_replicate]; omega) ?_)
    rw [wrap_one i (by omega)]
    have hrec := ih (i + 1) (by omega) (by omega)
    have e : (nums ((s.data.toList.take i).map lowB) ++ List.replicate (s.size - i) 0).set (i : Int).toNat ((lowN (B s i) : Nat) : Int) = nums ((s.data.toList.take (i + 1)).map lowB) ++ List.replicate (s.size - (i + 1)) 0 := by
      rw [Int.toNat_natCast, List.set_append_right _ _ (by omega), htl, Nat.sub_self, show s.size - i = (s.size - (i + 1)) + 1 from by omega, List.replicate_succ, List.set_cons_zero]
      rw [List.take_succ_eq_append_getElem hil]
      unfold nums
      rw [List.map_append, List.map_append, List.append_assoc]
      congr 1
      simp only [List.map_cons, List.map_nil, List.cons_append, List.nil_append, lowB_nat]
      unfold B bAt
      rw [List.getD_eq_getElem?_getD, List.getElem?_eq_getElem hil, Option.getD_some]
    rw [e]
    exact hrec
theorem lower_ev (s : ByteArray) (hs : s.size ≤ 10000000000000) : Ev (fun k => stoleref1_Lower.f k s) (⟨(s.data.toList.map lowB).toArray⟩ : ByteArray) := by
  unfold stoleref1_Lower.f
  refine Ev.pos (by omega) (Ev.pos (by rw [Int.toNat_natCast]; omega) ?_)
  have := refLower_ev s hs s.size 0 rfl (by omega)
  simpa [nums] using this
theorem rd_nums (l : List UInt8) (j : Nat) (h : j < l.length) : rd (nums l) (j : Int) = ((l[j].toNat : Nat) : Int) := by
  unfold rd nums
  rw [Int.toNat_natCast, List.getD_eq_getElem?_getD, List.getElem?_map, List.getElem?_eq_getElem h]; rfl
theorem nums_len (l : List UInt8) : (nums l).length = l.length := by unfold nums; rw [List.length_map]
theorem take_nums (l : List UInt8) (j : Nat) : (nums l).take j = nums (l.take j) := by unfold nums; rw [List.map_take]
theorem pre2_step (t : List UInt8) (j : Nat) (h : j < t.length) : pre2 (t.drop j) = if inSet schSet t[j].toNat = true then pre2 (t.drop (j + 1)) + 1 else 0 := by
  rw [List.drop_eq_getElem_cons h, pre2_cons]
theorem sch_in : ∀ c : Fin 256, inSet schSet c.val = (letN c.val || (digN c.val || (c.val == 43 || (c.val == 45 || c.val == 46)))) := by decide +kernel
theorem l2_ev (t : List UInt8) (ht : t.length ≤ 10000000000000) : ∀ d j, j + d = t.length → (0 < j → letN (t.getD 0 0).toNat = true ∧ j + pre2 (t.drop j) = pre2 t) →
    Ev (fun k => stoleref1_Scheme.l2 k (nums t) (j : Int)) ((⟨(schL t).1.toArray⟩ : ByteArray), (schL t).2) := by
  intro d
  induction d with
  | zero =>
    intro j hj hh
    refine Ev.step (f := fun k => _) (fun k => by rw [stoleref1_Scheme.l2]) ?_
    rw [nums_len]
    refine Ev.neg (by omega) ?_
    by_cases h0 : j = 0
    · subst h0
      obtain rfl : t = [] := List.eq_nil_of_length_eq_zero (by omega)
      exact Ev.pos rfl (Ev.ofSome rfl)
    · refine Ev.neg (by omega) (Ev.pos (by omega) (Ev.ofSome ?_))
      have hp := (hh (by omega)).2
      rw [List.drop_eq_nil_of_le (by omega)] at hp
      have hp2 : pre2 t = t.length := by rw [← hp]; show j + 0 = _; omega
      have : schL t = ([], false) := by
        unfold schL
        rw [if_neg (by intro e; rw [e] at hj; simp at hj; exact h0 hj), if_neg (by rw [(hh (by omega)).1]; decide), if_pos (.inl hp2)]
      rw [this]
  | succ d ih =>
    intro j hj hh
    have hlt : j < t.length := by omega
    have hne : t ≠ [] := fun e => by rw [e] at hlt; simp at hlt
    have h0 : t.getD 0 0 = t[0]'(by omega) := by rw [List.getD_eq_getElem?_getD, List.getElem?_eq_getElem (by omega)]; rfl
    obtain ⟨b, hb⟩ : ∃ b, t[j] = b := ⟨_, rfl⟩
    have hst := pre2_step t j hlt
    rw [hb] at hst
    have hrd := rd_nums t j hlt
    rw [hb] at hrd
    have hin := sch_in ⟨b.toNat, b.toNat_lt⟩
    simp only at hin
    have g1 : (j : Int) < ((nums t).length : Int) := by rw [nums_len]; omega
    have g2 : (0 : Int) ≤ (j : Int) := by omega
    have hw : wrap64 ((j : Int) + 1) = ((j + 1 : Nat) : Int) := wrap_one j (by omega)
    have hnext : inSet schSet b.toNat = true → (j = 0 → letN b.toNat = true) → Ev (fun k => stoleref1_Scheme.l2 k (nums t) ((j + 1 : Nat) : Int)) ((⟨(schL t).1.toArray⟩ : ByteArray), (schL t).2) := by
      intro hq hj0
      refine ih (j + 1) (by omega) (fun _ => ?_)
      rw [if_pos hq] at hst
      by_cases e : j = 0
      · subst e
        rw [List.drop_zero] at hst
        exact ⟨by rw [h0, hb]; exact hj0 rfl, by rw [hst]; omega⟩
      · obtain ⟨q1, q2⟩ := hh (by omega)
        exact ⟨q1, by omega⟩
    -- where it ends
    have hstop : inSet schSet b.toNat = false → 0 < j → Ev (fun k => if (j : Int) = 0 then (some ((⟨#[]⟩ : ByteArray), false)) else (if (j : Int) = ((nums t).length : Int) then (some ((⟨#[]⟩ : ByteArray), false)) else (if (b.toNat : Int) = 58 then (if (j : Int) ≤ ((nums t).length : Int) then ((stoleref1_Lower.f k (strOfNums ((nums t).take (j : Int).toNat))).bind fun t123 => (some (t123, true))) else (none)) else (some ((⟨#[]⟩ : ByteArray), false))))) ((⟨(schL t).1.toArray⟩ : ByteArray), (schL t).2) := by
      intro hq hj0
      obtain ⟨q1, q2⟩ := hh hj0
      rw [if_neg (by rw [hq]; decide)] at hst
      have hpj : pre2 t = j := by rw [hst] at q2; omega
      refine Ev.neg (by omega) (Ev.neg (by rw [nums_len]; omega) ?_)
      by_cases h58 : b.toNat = 58
      · refine Ev.pos (by omega) (Ev.pos (by rw [nums_len]; omega) ?_)
        have hb58 : b = 58 := UInt8.toNat_inj.1 h58
        have hsch : schL t = ((t.take j).map lowB, true) := by
          unfold schL
          rw [if_neg hne, if_neg (by rw [q1]; decide), hpj, if_neg]
          rintro (e | e)
          · omega
          · apply e; rw [List.getD_eq_getElem?_getD, List.getElem?_eq_getElem hlt, hb, hb58]; rfl
        have hstr : strOfNums ((nums t).take (j : Int).toNat) = (⟨(t.take j).toArray⟩ : ByteArray) := by rw [Int.toNat_natCast, take_nums]; exact strOfNums_bytes _
        rw [hstr, hsch]
        have hz : (⟨(t.take j).toArray⟩ : ByteArray).size = (t.take j).length := rfl
        exact Ev.bind (lower_ev _ (by rw [hz, List.length_take]; omega)) (Ev.ofSome rfl)
      · refine Ev.neg (by omega) (Ev.ofSome ?_)
        have : schL t = ([], false) := by
          unfold schL
          rw [if_neg hne, if_neg (by rw [q1]; decide), hpj, if_pos]
          right
          intro e; apply h58
          rw [List.getD_eq_getElem?_getD, List.getElem?_eq_getElem hlt, hb] at e
          have e2 : b = 58 := e
          rw [e2]; rfl
        rw [this]
    refine Ev.step (f := fun k => _) (fun k => by rw [stoleref1_Scheme.l2]) ?_
    rw [hrd, hw]
    refine Ev.pos g1 (Ev.pos g2 (Ev.bindC (ltr_b ⟨b.toNat, b.toNat_lt⟩) ?_))
    by_cases c1 : letN b.toNat = true
    · exact Ev.pos c1 (hnext (by rw [hin, c1]; rfl) (fun _ => c1))
    refine Ev.neg c1 ?_
    have c1f : letN b.toNat = false := by simpa using c1
    by_cases hj0 : j = 0
    · refine Ev.neg (by omega) (Ev.pos (by omega) (Ev.ofSome ?_))
      have : schL t = ([], false) := by
        unfold schL
        rw [if_neg hne, if_pos]
        subst hj0
        rw [h0, hb]; exact c1f
      rw [this]
    refine Ev.pos (by omega) (Ev.bindC (dgt_b ⟨b.toNat, b.toNat_lt⟩) ?_)
    by_cases c2 : digN b.toNat = true
    · exact Ev.pos c2 (hnext (by rw [hin, c2]; simp) (fun e => absurd e hj0))
    refine Ev.neg c2 ?_
    have c2f : digN b.toNat = false := by simpa using c2
    by_cases c3 : b.toNat = 43
    · exact Ev.pos (by omega) (hnext (by rw [hin, c3]; decide) (fun e => absurd e hj0))
    refine Ev.neg (by omega) ?_
    by_cases c4 : b.toNat = 45
    · exact Ev.pos (by omega) (hnext (by rw [hin, c4]; decide) (fun e => absurd e hj0))
    refine Ev.neg (by omega) ?_
    by_cases c5 : b.toNat = 46
    · exact Ev.pos (by omega) (hnext (by rw [hin, c5]; decide) (fun e => absurd e hj0))
    refine Ev.neg (by omega) ?_
    refine hstop ?_ (by omega)
    rw [hin, c1f, c2f, show (b.toNat == 43) = false by simpa using c3, show (b.toNat == 45) = false by simpa using c4, show (b.toNat == 46) = false by simpa using c5]; rfl
theorem l1_ev (s : ByteArray) (hs : s.size ≤ 10000000000000) : ∀ (l a : List UInt8) (i : Nat), i + l.length = s.size → s.data.toList.drop i = l → a.length ≤ i →
    Ev (fun k => stoleref1_Scheme.l1 k s (i : Int) (nums a)) ((⟨(schL (a ++ l.filter fun b => !brk b)).1.toArray⟩ : ByteArray), (schL (a ++ l.filter fun b => !brk b)).2) := by
  intro l
  induction l with
  | nil =>
    intro a i hi hd ha
    refine Ev.step (f := fun k => _) (fun k => by rw [stoleref1_Scheme.l1]) ?_
    simp only [List.length_nil] at hi
    refine Ev.neg (by omega) ?_
    rw [List.filter_nil, List.append_nil]
    exact l2_ev a (by omega) a.length 0 (by omega) (fun h => absurd h (by decide))
  | cons b l ih =>
    intro a i hi hd ha
    simp only [List.length_cons] at hi
    have hb := bt_drop s i hd
    have hdn := drop_next s i hd
    have hw : wrap64 ((i : Int) + 1) = ((i + 1 : Nat) : Int) := wrap_one i (by omega)
    have hnl := nums_len a
    have g1 : (i : Int) < (s.size : Int) := by omega
    have g3 : (nums a).length < 140737488355328 := by omega
    have key : brk b = true ↔ b.toNat = 9 ∨ b.toNat = 10 ∨ b.toNat = 13 := by rw [brk_nat]; simp [goneB]
    refine Ev.step (f := fun k => _) (fun k => by rw [stoleref1_Scheme.l1]) ?_
    rw [hb, hw]
    refine Ev.pos g1 (Ev.pos (by omega) ?_)
    have hskip : brk b = true → Ev (fun k => stoleref1_Scheme.l1 k s ((i + 1 : Nat) : Int) (nums a)) ((⟨(schL (a ++ (b :: l).filter fun b => !brk b)).1.toArray⟩ : ByteArray), (schL (a ++ (b :: l).filter fun b => !brk b)).2) := by
      intro hq
      have e : (b :: l).filter (fun b => !brk b) = l.filter fun b => !brk b := by rw [List.filter_cons, hq]; rfl
      rw [e]
      exact ih a (i + 1) (by omega) hdn (by omega)
    by_cases c1 : b.toNat = 9
    · exact Ev.pos (by omega) (hskip (key.2 (.inl c1)))
    refine Ev.neg (by omega) ?_
    by_cases c2 : b.toNat = 10
    · exact Ev.pos (by omega) (hskip (key.2 (.inr (.inl c2))))
    refine Ev.neg (by omega) ?_
    by_cases c3 : b.toNat = 13
    · exact Ev.pos (by omega) (hskip (key.2 (.inr (.inr c3))))
    refine Ev.neg (by omega) (Ev.pos g3 ?_)
    have hq : brk b = false := by
      have : ¬ brk b = true := fun h => by rw [key] at h; omega
      simpa using this
    have e : a ++ (b :: l).filter (fun b => !brk b) = (a ++ [b]) ++ l.filter fun b => !brk b := by rw [List.filter_cons, hq]; simp
    have e2 : nums a ++ [((b.toNat : Nat) : Int)] = nums (a ++ [b]) := by unfold nums; rw [List.map_append]; rfl
    rw [e, e2]
    exact ih (a ++ [b]) (i + 1) (by omega) hdn (by rw [List.length_append, List.length_singleton]; omega)
theorem j1_ev (s : ByteArray) (hs : s.size ≤ 10000000000000) (l : List UInt8) (i : Nat) (hi : i + l.length = s.size) (hd : s.data.toList.drop i = l) :
    Ev (fun k => stoleref1_Scheme.j1 k s (i : Int)) ((⟨(schL (l.filter fun b => !brk b)).1.toArray⟩ : ByteArray), (schL (l.filter fun b => !brk b)).2) := by
  refine Ev.step (f := fun k => _) (fun k => by rw [stoleref1_Scheme.j1]) ?_
  exact l1_ev s hs l [] i hi hd (Nat.zero_le _)
theorem l0_ev (s : ByteArray) (hs : s.size ≤ 10000000000000) : ∀ (l : List UInt8) (i : Nat), i + l.length = s.size → s.data.toList.drop i = l →
    Ev (fun k => stoleref1_Scheme.l0 k s (i : Int)) ((⟨(schL ((stripL l).filter fun b => !brk b)).1.toArray⟩ : ByteArray), (schL ((stripL l).filter fun b => !brk b)).2) := by
  intro l
  induction l with
  | nil =>
    intro i hi hd
    refine Ev.step (f := fun k => _) (fun k => by rw [stoleref1_Scheme.l0]) ?_
    simp only [List.length_nil] at hi
    exact Ev.neg (by omega) (j1_ev s hs [] i (by simp; omega) hd)
  | cons b l ih =>
    intro i hi hd
    have hi' := hi
    simp only [List.length_cons] at hi
    have hb := bt_drop s i hd
    have hdn := drop_next s i hd
    have hw : wrap64 ((i : Int) + 1) = ((i + 1 : Nat) : Int) := wrap_one i (by omega)
    refine Ev.step (f := fun k => _) (fun k => by rw [stoleref1_Scheme.l0]) ?_
    rw [hb, hw]
    refine Ev.pos (by omega) (Ev.pos (by omega) ?_)
    by_cases c : b.toNat ≤ 32
    · have e : stripL (b :: l) = stripL l := by unfold stripL; rw [List.dropWhile_cons, if_pos (by simpa using c)]
      rw [e]
      exact Ev.pos (by omega) (ih (i + 1) (by omega) hdn)
    · have e : stripL (b :: l) = b :: l := by unfold stripL; rw [List.dropWhile_cons, if_neg (by simpa using c)]
      rw [e]
      exact Ev.neg (by omega) (j1_ev s hs (b :: l) i hi' hd)
theorem scheme_ev (s : ByteArray) (hs : s.size ≤ 10000000000000) : Ev (fun k => stoleref1_Scheme.f k s) ((⟨(schS s).1.toArray⟩ : ByteArray), (schS s).2) := by
  unfold stoleref1_Scheme.f
  exact l0_ev s hs s.data.toList 0 (by rw [Nat.zero_add]; rfl) rfl
/-- in: a sign among signs. -/
theorem in_ev (c : Nat) (g : ByteArray) (hg : g.size ≤ 1000) : ∀ (l : List UInt8) (i : Nat), i + l.length = g.size → g.data.toList.drop i = l → Ev (fun k => stoleref1_in.l0 k (c : Int) g (i : Int)) (l.any fun b => b.toNat == c) := by
  intro l
  induction l with
  | nil =>
    intro i hi hd
    refine Ev.step (f := fun k => _) (fun k => by rw [stoleref1_in.l0]) ?_
    simp only [List.length_nil] at hi
    exact Ev.neg (by omega) (Ev.ofSome rfl)
  | cons b l ih =>
    intro i hi hd
    simp only [List.length_cons] at hi
    have hb := bt_drop g i hd
    have hdn := drop_next g i hd
    have hw : wrap64 ((i : Int) + 1) = ((i + 1 : Nat) : Int) := wrap_one i (by omega)
    refine Ev.step (f := fun k => _) (fun k => by rw [stoleref1_in.l0]) ?_
    rw [hb, hw]
    refine Ev.pos (by omega) (Ev.pos (by omega) ?_)
    by_cases q : b.toNat = c
    · exact Ev.pos (by omega) (Ev.ofSome (by rw [List.any_cons, show (b.toNat == c) = true by simpa using q]; rfl))
    · refine Ev.neg (by omega) ?_
      rw [List.any_cons, show (b.toNat == c) = false by simpa using q, Bool.false_or]
      exact ih (i + 1) (by omega) hdn
def okSet (g : List UInt8) : Prop := ∀ c : Fin 256, inSet g c.val = (letN c.val || (digN c.val || g.any fun b => b.toNat == c.val))
theorem ok_more : okSet moreSet := by unfold okSet; decide +kernel
theorem ok_keep : okSet keepSet := by unfold okSet; decide +kernel
theorem dg_b : ∀ j : Fin 16, bt (⟨#[48, 49, 50, 51, 52, 53, 54, 55, 56, 57, 65, 66, 67, 68, 69, 70]⟩ : ByteArray) (j.val : Int) = ((dgU j.val).toNat : Int) := by decide +kernel
theorem lo_b : ∀ c : Fin 256, Go.bits .and .u8 (c.val : Int) 15 = ((c.val % 16 : Nat) : Int) := by decide +kernel
theorem percent_ev (g : ByteArray) (hg : g.size ≤ 1000) (hok : okSet g.data.toList) (t : ByteArray) (ht : t.size ≤ 1000000000000) : ∀ (l : List UInt8) (acc : List UInt8) (i : Nat), i + l.length = t.size → t.data.toList.drop i = l → acc.length ≤ 3 * i →
    Ev (fun k => stoleref1_percent.l0 k g t (nums acc) (i : Int)) (⟨(acc ++ wrL g.data.toList l).toArray⟩ : ByteArray) := by
  intro l
  induction l with
  | nil =>
    intro acc i hi hd ha
    refine Ev.step (f := fun k => _) (fun k => by rw [stoleref1_percent.l0]) ?_
    simp only [List.length_nil] at hi
    refine Ev.neg (by omega) (Ev.ofSome ?_)
    have e : wrL g.data.toList [] = [] := rfl
    rw [e, List.append_nil]
    exact congrArg some (strOfNums_bytes acc)
  | cons b l ih =>
    intro acc i hi hd ha
    simp only [List.length_cons] at hi
    have hb := bt_drop t i hd
    have hdn := drop_next t i hd
    have hw : wrap64 ((i : Int) + 1) = ((i + 1 : Nat) : Int) := wrap_one i (by omega)
    have hnl := nums_len acc
    have g1 : (i : Int) < (t.size : Int) := by omega
    have g3 : (nums acc).length < 140737488355328 := by omega
    have hin := hok ⟨b.toNat, b.toNat_lt⟩
    simp only at hin
    have hw1 : wrL g.data.toList (b :: l) = wr1 g.data.toList b ++ wrL g.data.toList l := rfl
    have hkeep : inSet g.data.toList b.toNat = true → Ev (fun k => if (nums acc).length < 140737488355328 then (stoleref1_percent.l0 k g t (nums acc ++ [((b.toNat : Nat) : Int)]) ((i + 1 : Nat) : Int)) else (none)) (⟨(acc ++ wrL g.data.toList (b :: l)).toArray⟩ : ByteArray) := by
      intro hq
      refine Ev.pos g3 ?_
      have e2 : nums acc ++ [((b.toNat : Nat) : Int)] = nums (acc ++ [b]) := by unfold nums; rw [List.map_append]; rfl
      have e3 : acc ++ wrL g.data.toList (b :: l) = (acc ++ [b]) ++ wrL g.data.toList l := by rw [hw1]; unfold wr1; rw [if_pos hq, List.append_assoc]
      rw [e2, e3]
      exact ih (acc ++ [b]) (i + 1) (by omega) hdn (by rw [List.length_append, List.length_singleton]; omega)
    refine Ev.step (f := fun k => _) (fun k => by rw [stoleref1_percent.l0]) ?_
    rw [hb, hw]
    refine Ev.pos g1 (Ev.pos (by omega) (Ev.bindC (ltr_b ⟨b.toNat, b.toNat_lt⟩) ?_))
    by_cases c1 : letN b.toNat = true
    · exact Ev.pos c1 (hkeep (by rw [hin, c1]; rfl))
    refine Ev.neg c1 (Ev.bindC (dgt_b ⟨b.toNat, b.toNat_lt⟩) ?_)
    by_cases c2 : digN b.toNat = true
    · exact Ev.pos c2 (hkeep (by rw [hin, c2]; simp))
    refine Ev.neg c2 (Ev.bind (show Ev (fun k => stoleref1_in.f k (b.toNat : Int) g) (g.data.toList.any fun x => x.toNat == b.toNat) from in_ev b.toNat g hg g.data.toList 0 (by rw [Nat.zero_add]; rfl) rfl) ?_)
    by_cases c3 : (g.data.toList.any fun x => x.toNat == b.toNat) = true
    · exact Ev.pos c3 (hkeep (by rw [hin, c3]; simp))
    refine Ev.neg c3 ?_
    have hq : ¬ inSet g.data.toList b.toNat = true := by rw [hin]; simp [c1, c2, c3]
    have hb256 := b.toNat_lt
    have d1 : (b.toNat : Int) / 16 = ((b.toNat / 16 : Nat) : Int) := by omega
    have d2 : Go.bits .and .u8 (b.toNat : Int) 15 = ((b.toNat % 16 : Nat) : Int) := lo_b ⟨b.toNat, hb256⟩
    have d3 := dg_b ⟨b.toNat / 16, by omega⟩
    have d4 := dg_b ⟨b.toNat % 16, by omega⟩
    simp only at d3 d4
    rw [d1, d2, d3, d4]
    refine Ev.pos (by omega) (Ev.pos (by omega) (Ev.pos (by omega) (Ev.pos (by omega) (Ev.bindC rfl (Ev.pos (by simp; omega) ?_)))))
    have e2 : nums acc ++ [(37 : Int), ((dgU (b.toNat / 16)).toNat : Int), ((dgU (b.toNat % 16)).toNat : Int)] = nums (acc ++ wr1 g.data.toList b) := by
      unfold wr1; rw [if_neg hq]; unfold nums; rw [List.map_append]; rfl
    have e3 : acc ++ wrL g.data.toList (b :: l) = (acc ++ wr1 g.data.toList b) ++ wrL g.data.toList l := by rw [hw1, List.append_assoc]
    have hlen : (wr1 g.data.toList b).length = 3 := by unfold wr1; rw [if_neg hq]; rfl
    rw [e2, e3]
    exact ih (acc ++ wr1 g.data.toList b) (i + 1) (by omega) hdn (by rw [List.length_append, hlen]; omega)
theorem norm_small (s : ByteArray) : (normS s).size ≤ 3 * s.size := by have := normS_size s; omega
theorem percent_all (g : ByteArray) (hg : g.size ≤ 1000) (hok : okSet g.data.toList) (s : ByteArray) (hs : s.size ≤ 100000000000) : Ev (fun k => stoleref1_percent.f k s g) (⟨(wrL g.data.toList (normS s).data.toList).toArray⟩ : ByteArray) := by
  unfold stoleref1_percent.f
  have hz := norm_small s
  refine Ev.bind (refNorm_ok s (by omega)) ?_
  exact percent_ev g hg hok (normS s) (by omega) (normS s).data.toList [] 0 (by rw [Nat.zero_add]; rfl) rfl (Nat.le_refl _)
theorem known_f (l : List UInt8) : stoleref1_Known.f ⟨l.toArray⟩ = some (alw l) := by
  unfold stoleref1_Known.f
  rw [show (⟨l.toArray⟩ : ByteArray).toList = l from (list_eq _).trans rfl]
  unfold alw
  by_cases q1 : l = [104, 116, 116, 112]
  · rw [if_pos q1, q1]; rfl
  rw [if_neg q1, show (l == [104, 116, 116, 112]) = false by simpa using q1]
  by_cases q2 : l = [104, 116, 116, 112, 115]
  · rw [if_pos q2, q2]; rfl
  rw [if_neg q2, show (l == [104, 116, 116, 112, 115]) = false by simpa using q2]
  by_cases q3 : l = [109, 97, 105, 108, 116, 111]
  · rw [if_pos q3, q3]; rfl
  rw [if_neg q3, show (l == [109, 97, 105, 108, 116, 111]) = false by simpa using q3]; simp
theorem start_ev (s : ByteArray) (hs : s.size ≤ 100000000000) : Ev (fun k => stoleref1_UrlStart.f k s) (startS s) := by
  unfold stoleref1_UrlStart.f
  have hz := norm_small s
  have hp := percent_all (⟨#[45, 46, 95, 126, 58, 47, 63, 35, 91, 93, 64, 33, 36, 38, 42, 43, 44, 59, 61, 37]⟩ : ByteArray) (by decide) ok_more s hs
  have e : ∀ y : ByteArray, startS y = ⟨(if (schS (normS y)).2 = true ∧ alw (schS (normS y)).1 = false then refused else wrL moreSet (normS y).data.toList).toArray⟩ := fun _ => rfl
  refine Ev.bind (refNorm_ok s (by omega)) (Ev.bind (scheme_ev (normS s) (by omega)) ?_)
  rw [e s]
  by_cases q : (schS (normS s)).2 = true
  · refine Ev.pos q (Ev.bindC (known_f _) ?_)
    by_cases a : alw (schS (normS s)).1 = true
    · rw [if_neg (by rw [a]; rintro ⟨_, h⟩; cases h)]
      exact Ev.pos a (Ev.bind hp (Ev.ofSome rfl))
    · rw [if_pos ⟨q, by simpa using a⟩]
      exact Ev.neg a (Ev.ofSome rfl)
  · rw [if_neg (fun h => q h.1)]
    exact Ev.neg q (Ev.bind hp (Ev.ofSome rfl))
theorem part_ev (s : ByteArray) (hs : s.size ≤ 100000000000) : Ev (fun k => stoleref1_UrlPart.f k s) (partS s) := by
  unfold stoleref1_UrlPart.f
  have hp := percent_all (⟨#[45, 46, 95, 126]⟩ : ByteArray) (by decide) ok_keep s hs
  exact Ev.bind hp (Ev.ofSome rfl)
theorem Urls (s : ByteArray) (_ : s.size ≤ 140737488351232) (hb : s.size ≤ 1048576) : ∃ k, stolelaw9_Urls.f k s = some true := by
  have hE : Ev (fun k => stolelaw9_Urls.f k s) true := by
    unfold stolelaw9_Urls.f
    refine Ev.bindC (scheme_f s (by omega)) (Ev.bind (scheme_ev s (by omega)) (Ev.pos rfl (Ev.pos (by simp) (Ev.bindC (start_f s (by omega)) (Ev.bind (start_ev s (by omega)) (Ev.pos rfl (Ev.bindC (part_f s (by omega)) (Ev.bind (part_ev s (by omega)) (Ev.pos rfl (Ev.bindC awake9 (Ev.ofSome rfl)))))))))))
  obtain ⟨n, hn⟩ := hE
  exact ⟨n, hn n (Nat.le_refl _)⟩
end Go.Proofs.YtfncppekjgbedaaGreatDoor.Pure
