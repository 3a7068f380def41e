/- refs: plain laws of the plain functions: no program. -/
import Derived.Test.YtfabijpafbhdbaaDoorRefPlain
import Derived.Test.YtfabijpafbhdbaaDoorUtfMore2
namespace Go.Proofs.YtfabijpafbhdbaaDoor.Refs
open Go.Lib Go.Proofs.YtfabijpafbhdbaaDoor.Utf

theorem byte_eq {b : UInt8} {n : Nat} (h : b.toNat = n) (hn : n < 256) : b = UInt8.ofNat n := by
  apply UInt8.toNat_inj.1
  rw [h, UInt8.toNat_ofNat', Nat.mod_eq_of_lt (by simpa using hn)]
theorem all_bytes (P : UInt8 → Prop) (h : ∀ n : Nat, n < 256 → P (UInt8.ofNat n)) (b : UInt8) : P b := by
  have := h b.toNat b.toNat_lt
  rwa [UInt8.ofNat_toNat] at this

/-- A digit, a letter or #. -/
def okN (c : Nat) : Bool := decide (48 ≤ c ∧ c ≤ 57) || decide (97 ≤ lowN c ∧ lowN c ≤ 122) || decide (c = 35)
theorem dig_ok : ∀ n : Nat, n < 256 → digN n 16 < 16 → okN n = true := by decide +kernel
theorem dig_ok10 : ∀ n : Nat, n < 256 → digN n 10 < 10 → okN n = true := by decide +kernel
theorem ok_59 : okN 59 = false := by decide
theorem ok_mem (p : List UInt8) (h : p.all (fun b => okN b.toNat) = true) {b : UInt8} (hb : b ∈ p) : okN b.toNat = true := List.all_eq_true.1 h b hb
theorem numGo_ok (base : Nat) (hd : ∀ n : Nat, n < 256 → digN n base < base → okN n = true) : ∀ (l : List UInt8) (x y : Nat), numGo l base x = some y → ∀ b ∈ l, okN b.toNat = true
  | [], _, _, _, b, hb => by cases hb
  | c :: l, x, y, h, b, hb => by
    unfold numGo at h
    split at h
    · cases h
    · rename_i hc
      rcases List.mem_cons.1 hb with rfl | hb
      · exact hd _ (b.toNat_lt) (by omega)
      · exact numGo_ok base hd l _ _ h b hb
theorem numL_ok {l : List UInt8} {base most : Nat} (hd : ∀ n : Nat, n < 256 → digN n base < base → okN n = true) {x : List UInt8} (h : numL l base most = some x) : (∀ b ∈ l, okN b.toNat = true) ∧ l.length ≤ most := by
  unfold numL at h
  split at h
  · cases h
  · rename_i hc
    obtain ⟨y, hy, _⟩ := Option.map_eq_some_iff.1 h
    refine ⟨numGo_ok base hd l 0 y hy, ?_⟩
    rcases Nat.lt_or_ge most l.length with h1 | h1
    · exact absurd (.inr h1) hc
    · exact h1
theorem nameL_ok {l x : List UInt8} (h : nameL l = some x) : (∀ b ∈ l, okN b.toNat = true) ∧ l.length ≤ 4 := by
  unfold nameL at h
  repeat' split at h
  all_goals first | (cases h; done) | (subst l; exact ⟨by decide, by decide⟩)
theorem prefix_split {l p : List UInt8} (h : hasPrefix l p = true) : l = p ++ l.drop p.length := by
  obtain ⟨t, rfl⟩ := List.isPrefixOf_iff_prefix.1 h
  rw [List.drop_left]
theorem meantL_ok {l x : List UInt8} (h : meantL l = some x) : (∀ b ∈ l, okN b.toNat = true) ∧ l.length ≤ 8 := by
  unfold meantL at h
  split at h
  · rename_i hp
    obtain ⟨h1, h2⟩ := numL_ok dig_ok h
    have hsp : l = [35, 120] ++ l.drop 2 ∨ l = [35, 88] ++ l.drop 2 := hp.imp (prefix_split ·) (prefix_split ·)
    refine ⟨fun b hb => ?_, by rw [List.length_drop] at h2; omega⟩
    rcases hsp with e | e
    · rw [e] at hb
      rcases List.mem_append.1 hb with hb | hb
      · exact ok_mem [35, 120] (by decide) hb
      · exact h1 b hb
    · rw [e] at hb
      rcases List.mem_append.1 hb with hb | hb
      · exact ok_mem [35, 88] (by decide) hb
      · exact h1 b hb
  · split at h
    · rename_i hp
      obtain ⟨h1, h2⟩ := numL_ok dig_ok10 h
      have e : l = [35] ++ l.drop 1 := prefix_split hp
      refine ⟨fun b hb => ?_, by rw [List.length_drop] at h2; omega⟩
      rw [e] at hb
      rcases List.mem_append.1 hb with hb | hb
      · exact ok_mem [35] (by decide) hb
      · exact h1 b hb
    · obtain ⟨h1, h2⟩ := nameL_ok h
      exact ⟨h1, by omega⟩

/-- How many bytes at the head are digits, letters or #; n at most. -/
def run : Nat → List UInt8 → Nat
  | 0, _ => 0
  | _ + 1, [] => 0
  | n + 1, b :: l => if okN b.toNat = true then run n l + 1 else 0
theorem run_cons (n : Nat) (b : UInt8) (l : List UInt8) : run (n + 1) (b :: l) = if okN b.toNat = true then run n l + 1 else 0 := rfl
theorem run_le : ∀ (n : Nat) (l : List UInt8), run n l ≤ n ∧ run n l ≤ l.length
  | 0, _ => ⟨Nat.le_refl _, Nat.zero_le _⟩
  | _ + 1, [] => ⟨Nat.zero_le _, Nat.zero_le _⟩
  | n + 1, b :: l => by
    unfold run
    have := run_le n l
    split
    · simp only [List.length_cons]; omega
    · exact ⟨Nat.zero_le _, Nat.zero_le _⟩
theorem run_all : ∀ (n : Nat) (l m : List UInt8), (∀ b ∈ l, okN b.toNat = true) → l.length ≤ n → run n (l ++ m) = l.length + run (n - l.length) m
  | n, [], m, _, _ => by simp
  | 0, _ :: _, _, _, h => by simp at h
  | n + 1, b :: l, m, h, hn => by
    simp only [List.length_cons] at hn
    show run (n + 1) (b :: (l ++ m)) = _
    rw [run_cons, if_pos (h b (List.mem_cons_self ..)), run_all n l m (fun b hb => h b (List.mem_cons_of_mem _ hb)) (by omega)]
    simp only [List.length_cons, Nat.add_sub_add_right]; omega
theorem run_stop (n : Nat) (b : UInt8) (l : List UInt8) (h : okN b.toNat = false) : run n (b :: l) = 0 := by
  cases n with
  | zero => rfl
  | succ n => unfold run; rw [h]; rfl
theorem run_ok : ∀ (n : Nat) (l : List UInt8), ∀ b ∈ l.take (run n l), okN b.toNat = true
  | 0, l, b, hb => by simp [run] at hb
  | n + 1, [], b, hb => by simp [run] at hb
  | n + 1, c :: l, b, hb => by
    unfold run at hb
    split at hb
    · rename_i h
      rw [List.take_succ_cons] at hb
      rcases List.mem_cons.1 hb with rfl | hb
      · exact h
      · exact run_ok n l b hb
    · simp at hb

/-- A byte's first place. -/
theorem indexByte_some : ∀ (l : List UInt8) (c : UInt8) (n : Nat), indexByte l c = (n : Int) → ∃ m, l = l.take n ++ c :: m ∧ c ∉ l.take n ∧ n < l.length
  | [], c, n, h => by unfold indexByte at h; omega
  | b :: l, c, n, h => by
    unfold indexByte at h
    split at h
    · rename_i hb
      obtain rfl : n = 0 := by omega
      obtain rfl := beq_iff_eq.1 hb
      exact ⟨l, rfl, by simp, by simp⟩
    · rename_i hb
      split at h
      · omega
      · rename_i h2
        have hn := (indexByte_lt l c).1
        have hne : indexByte l c ≠ -1 := fun e => h2 (by rw [e]; rfl)
        obtain ⟨k, rfl⟩ : ∃ k, n = k + 1 := ⟨n - 1, by omega⟩
        obtain ⟨m, h3, h4, h5⟩ := indexByte_some l c k (by omega)
        refine ⟨m, ?_, ?_, by simp only [List.length_cons]; omega⟩
        · rw [List.take_succ_cons, List.cons_append, ← h3]
        · rw [List.take_succ_cons]
          intro hm
          rcases List.mem_cons.1 hm with rfl | hm
          · exact hb (beq_self_eq_true _)
          · exact h4 hm
theorem indexByte_none : ∀ (l : List UInt8) (c : UInt8), indexByte l c = -1 → c ∉ l
  | [], c, _ => by simp
  | b :: l, c, h => by
    unfold indexByte at h
    split at h
    · omega
    · rename_i hb
      split at h
      · rename_i h2
        intro hm
        rcases List.mem_cons.1 hm with rfl | hm
        · exact hb (beq_self_eq_true _)
        · exact indexByte_none l c (beq_iff_eq.1 h2) hm
      · have := (indexByte_lt l c).1; rename_i h2; exact absurd (by rw [show indexByte l c = -2 from by omega] at this; omega) h2
theorem indexByte_at (l m : List UInt8) (c : UInt8) (h : c ∉ l) : indexByte (l ++ c :: m) c = (l.length : Int) := by
  induction l with
  | nil => unfold indexByte; simp
  | cons b l ih =>
    have hb : (b == c) = false := by rw [beq_eq_false_iff_ne]; rintro rfl; exact h (List.mem_cons_self ..)
    have := ih (fun hm => h (List.mem_cons_of_mem _ hm))
    show indexByte (b :: (l ++ c :: m)) c = _
    unfold indexByte
    rw [hb, this]
    have : ((l.length : Int) == -1) = false := by rw [beq_eq_false_iff_ne]; omega
    rw [this]; simp
theorem indexByte_absent (l : List UInt8) (c : UInt8) (h : c ∉ l) : indexByte l c = -1 := by
  induction l with
  | nil => rfl
  | cons b l ih =>
    have hb : (b == c) = false := by rw [beq_eq_false_iff_ne]; rintro rfl; exact h (List.mem_cons_self ..)
    have := ih (fun hm => h (List.mem_cons_of_mem _ hm))
    unfold indexByte
    rw [hb, this]; rfl

/-- The document's way to a reference: the run of digits, letters and #, then ; -/
def docAt (l : List UInt8) : Option (List UInt8 × Nat) :=
  if (l.drop (run 10 l))[0]? = some 59 then (meantL (l.take (run 10 l))).map fun x => (x, run 10 l + 2) else none
theorem ref_doc (l : List UInt8) : refAt (38 :: l) = docAt l := by
  have hib : indexByte ((38 :: l).take 11) 59 = if indexByte (l.take 10) 59 = -1 then -1 else indexByte (l.take 10) 59 + 1 := by
    show indexByte (38 :: l.take 10) 59 = _
    rw [indexByte]
    have : ((38 : UInt8) == 59) = false := by decide
    rw [this]
    by_cases h : indexByte (l.take 10) 59 = -1
    · rw [h]; rfl
    · rw [if_neg h]
      have : (indexByte (l.take 10) 59 == -1) = false := by rw [beq_eq_false_iff_ne]; exact h
      rw [this]; rfl
  have hlow := (indexByte_lt (l.take 10) 59).1
  unfold refAt
  by_cases hn : indexByte (l.take 10) 59 = -1
  · rw [hib, if_pos hn, if_neg (by omega)]
    unfold docAt
    split
    · rename_i h59
      have habs := indexByte_none _ _ hn
      have hr := run_le 10 l
      have h10 : run 10 l = 10 := by
        rcases Nat.lt_or_ge (run 10 l) 10 with h | h
        · exfalso; apply habs
          rw [List.getElem?_drop, Nat.add_zero] at h59
          have : (l.take 10)[run 10 l]? = some 59 := by rw [List.getElem?_take, if_pos h]; exact h59
          exact List.mem_of_getElem? this
        · omega
      cases hm : meantL (l.take (run 10 l)) with
      | none => rfl
      | some x =>
        have := (meantL_ok hm).2
        rw [List.length_take] at this
        omega
    · rfl
  · obtain ⟨n, hn2⟩ : ∃ n : Nat, indexByte (l.take 10) 59 = (n : Int) := ⟨(indexByte (l.take 10) 59).toNat, by omega⟩
    rw [hib, if_neg hn, if_pos (by omega), hn2]
    obtain ⟨m, h1, h2, h3⟩ := indexByte_some _ _ _ hn2
    rw [List.length_take] at h3
    have htt : (l.take 10).take n = l.take n := by rw [List.take_take, Nat.min_eq_left (by omega)]
    rw [htt] at h1 h2
    have hl : l = l.take n ++ 59 :: (m ++ l.drop 10) := by
      conv => lhs; rw [← List.take_append_drop 10 l, h1]
      rw [List.append_assoc]; rfl
    have hmid : (((38 : UInt8) :: l).take ((n : Int) + 1).toNat).drop 1 = l.take n := by
      rw [show ((n : Int) + 1).toNat = n + 1 from by omega]; rfl
    rw [hmid, show ((n : Int) + 1).toNat = n + 1 from by omega]
    have hnl : (l.take n).length = n := by rw [List.length_take]; omega
    by_cases hall : ∀ b ∈ l.take n, okN b.toNat = true
    · have hrun : run 10 l = n := by
        have := run_all 10 (l.take n) (59 :: (m ++ l.drop 10)) hall (by omega)
        rw [← hl, hnl, run_stop _ 59 _ (by decide)] at this
        exact this
      unfold docAt
      rw [hrun, if_pos]
      rw [List.getElem?_drop, hl, List.getElem?_append_right (by omega), hnl]; simp
    · have hnone : meantL (l.take n) = none := by
        cases hm : meantL (l.take n) with
        | none => rfl
        | some x => exact absurd (meantL_ok hm).1 hall
      rw [hnone]
      unfold docAt
      split
      · rename_i h59
        have hr := run_le 10 l
        rw [List.getElem?_drop, Nat.add_zero] at h59
        rcases Nat.lt_trichotomy (run 10 l) n with h | h | h
        · exfalso
          have : (l.take n)[run 10 l]? = some 59 := by rw [List.getElem?_take, if_pos h]; exact h59
          exact h2 (List.mem_of_getElem? this)
        · rw [h, hnone]
        · exfalso
          have hmem : (59 : UInt8) ∈ l.take (run 10 l) := by
            have : (l.take (run 10 l))[n]? = some 59 := by
              rw [List.getElem?_take, if_pos h, hl, List.getElem?_append_right (by omega), hnl]; simp
            exact List.mem_of_getElem? this
          have := run_ok 10 l 59 hmem
          exact absurd this (by decide)
      · rfl
end Go.Proofs.YtfabijpafbhdbaaDoor.Refs
