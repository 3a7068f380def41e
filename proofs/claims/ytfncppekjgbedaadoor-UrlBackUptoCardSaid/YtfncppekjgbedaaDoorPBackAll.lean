/- More on texts and their norm: plain lists of bytes, no program. The norm of a norm, and of parts: plain lists of bytes, no program. The document's texts (stoleref1.Size, Norm) are the plain ones. UrlBack: the printed function's plain law. -/
import Derived.Test.YtfncppekjgbedaaDoorUtfPlain
import Derived.Test.YtfncppekjgbedaaDoorXU5
import Derived.Test.YtfncppekjgbedaaDoorBase
import Derived.Test.YtfncppekjgbedaaDoorPTwice
import Derived.Test.YtfncppekjgbedaaDoorXU6
section
namespace Go.Proofs.YtfncppekjgbedaaDoor.Utf
theorem norm_len_ge (l : List UInt8) : l.length ≤ (normL l).length := by
  generalize hn : l.length = n
  induction n using Nat.strongRecOn generalizing l with
  | _ n ih =>
    cases l with
    | nil => simp at hn; omega
    | cons b l =>
      simp only [List.length_cons] at hn
      by_cases h : signL (b :: l) = 0
      · rw [norm_bad b l h, List.length_append]
        have := ih l.length (by omega) l rfl
        simp only [bad, List.length_cons, List.length_nil]; omega
      · rw [norm_sign b l h, List.length_append, List.length_take]
        have := ih ((b :: l).drop (signL (b :: l))).length (by rw [List.length_drop, List.length_cons]; omega) _ rfl
        rw [List.length_drop, List.length_cons] at this
        have := sign_le (b :: l)
        simp only [List.length_cons] at *
        omega
end Go.Proofs.YtfncppekjgbedaaDoor.Utf
end
section
namespace Go.Proofs.YtfncppekjgbedaaDoor.Utf

theorem bAt_cons_zero (c : UInt8) (l : List UInt8) : bAt (c :: l) 0 = c.toNat := rfl
theorem bAt_append (l m : List UInt8) (i : Nat) (h : i < l.length) : bAt (l ++ m) i = bAt l i := by
  unfold bAt
  rw [List.getD_eq_getElem?_getD, List.getD_eq_getElem?_getD, List.getElem?_append_left h]
theorem bAt_take (l : List UInt8) (k i : Nat) (h : i < k) : bAt (l.take k) i = bAt l i := by
  unfold bAt
  rw [List.getD_eq_getElem?_getD, List.getD_eq_getElem?_getD, List.getElem?_take, if_pos h]

/-- A sign hangs on its own bytes alone. -/
theorem sgn_more (n m b0 b1 b2 b3 c1 c2 c3 : Nat) (k : Nat) (hk : k ≠ 0) (h : sgnN n b0 b1 b2 b3 = k) (hm : k ≤ m) (h1 : 1 < k → c1 = b1) (h2 : 2 < k → c2 = b2) (h3 : 3 < k → c3 = b3) : sgnN m b0 c1 c2 c3 = k := by
  subst h
  revert hk hm h1 h2 h3
  unfold sgnN
  by_cases e0 : b0 = 0
  · simp [e0]
  simp only [if_neg e0]
  by_cases e1 : b0 < 128
  · simp [e1]
  simp only [if_neg e1]
  by_cases e2 : 194 ≤ b0 ∧ b0 ≤ 223
  · simp only [if_pos e2]
    by_cases e3 : 2 ≤ n ∧ 128 ≤ b1 ∧ b1 ≤ 191
    · simp only [if_pos e3]
      intro _ hm h1 _ _
      have := h1 (by omega)
      rw [if_pos (by omega)]
    · simp only [if_neg e3]; intro h; exact absurd rfl h
  simp only [if_neg e2]
  by_cases e4 : 224 ≤ b0 ∧ b0 ≤ 239
  · simp only [if_pos e4]
    by_cases e3 : 3 ≤ n ∧ 128 ≤ b1 ∧ b1 ≤ 191 ∧ 128 ≤ b2 ∧ b2 ≤ 191 ∧ ¬ (b0 = 224 ∧ b1 < 160) ∧ ¬ (b0 = 237 ∧ b1 > 159)
    · simp only [if_pos e3]
      intro _ hm h1 h2 _
      have := h1 (by omega)
      have := h2 (by omega)
      rw [if_pos (by omega)]
    · simp only [if_neg e3]; intro h; exact absurd rfl h
  simp only [if_neg e4]
  by_cases e5 : 240 ≤ b0 ∧ b0 ≤ 244
  · simp only [if_pos e5]
    by_cases e3 : 4 ≤ n ∧ 128 ≤ b1 ∧ b1 ≤ 191 ∧ 128 ≤ b2 ∧ b2 ≤ 191 ∧ 128 ≤ b3 ∧ b3 ≤ 191 ∧ ¬ (b0 = 240 ∧ b1 < 144) ∧ ¬ (b0 = 244 ∧ b1 > 143)
    · simp only [if_pos e3]
      intro _ hm h1 h2 h3
      have := h1 (by omega)
      have := h2 (by omega)
      have := h3 (by omega)
      rw [if_pos (by omega)]
    · simp only [if_neg e3]; intro h; exact absurd rfl h
  simp only [if_neg e5]; intro h; exact absurd rfl h

/-- What begins with the bytes of a sign begins with that sign, whatever follows. -/
theorem sign_take (l m : List UInt8) (h : signL l ≠ 0) : signL (l.take (signL l) ++ m) = signL l := by
  have hle := sign_le l
  cases l with
  | nil => exact absurd rfl h
  | cons c l =>
    have hd : signL (c :: l) = sgnN (c :: l).length (bAt (c :: l) 0) (bAt (c :: l) 1) (bAt (c :: l) 2) (bAt (c :: l) 3) := by unfold signL; rw [if_neg (by simp)]
    generalize hk : signL (c :: l) = k at *
    obtain ⟨j, rfl⟩ : ∃ j, k = j + 1 := ⟨k - 1, by omega⟩
    have hne : ¬ (c :: l).take (j + 1) ++ m = [] := by simp
    have htl : ((c :: l).take (j + 1)).length = j + 1 := by rw [List.length_take]; omega
    unfold signL
    rw [if_neg hne]
    have hb : ∀ i, i < j + 1 → bAt ((c :: l).take (j + 1) ++ m) i = bAt (c :: l) i := fun i hi => by rw [bAt_append _ _ _ (by omega), bAt_take _ _ _ hi]
    rw [hb 0 (by omega)]
    exact sgn_more _ _ _ _ _ _ _ _ _ _ h hd.symm (by rw [List.length_append, htl]; omega) (fun h => hb 1 h) (fun h => hb 2 h) (fun h => hb 3 h)
theorem norm_take (l m : List UInt8) (h : signL l ≠ 0) : normL (l.take (signL l) ++ m) = l.take (signL l) ++ normL m := by
  have hs := sign_take l m h
  have hle := sign_le l
  cases l with
  | nil => exact absurd rfl h
  | cons c l =>
    obtain ⟨j, hj⟩ : ∃ j, signL (c :: l) = j + 1 := ⟨signL (c :: l) - 1, by omega⟩
    rw [hj] at hs hle ⊢
    have htl : ((c :: l).take (j + 1)).length = j + 1 := by rw [List.length_take]; omega
    have e : (c :: l).take (j + 1) ++ m = c :: (l.take j ++ m) := by rw [List.take_succ_cons]; rfl
    rw [e] at hs ⊢
    rw [norm_sign c _ (by omega), hs, ← e, List.take_append_of_le_length (by omega), List.take_of_length_le (by omega), List.drop_append_of_le_length (by omega), List.drop_of_length_le (by omega), List.nil_append]
theorem norm_badd (m : List UInt8) : normL (bad ++ m) = bad ++ normL m := by
  have h : signL (bad ++ m) = 3 := by
    unfold signL
    rw [if_neg (by simp [bad])]
    show sgnN (m.length + 3) 239 191 189 _ = 3
    unfold sgnN
    simp
  have e : bad ++ m = 239 :: ([191, 189] ++ m) := rfl
  rw [e] at h ⊢
  rw [norm_sign _ _ (by omega), h]
  rfl
/-- A norm ahead stays. -/
theorem norm_append (s t : List UInt8) : normL (normL s ++ t) = normL s ++ normL t := by
  generalize hn : s.length = n
  induction n using Nat.strongRecOn generalizing s with
  | _ n ih =>
    cases s with
    | nil => rfl
    | cons b l =>
      simp only [List.length_cons] at hn
      by_cases h : signL (b :: l) = 0
      · rw [norm_bad b l h, List.append_assoc, norm_badd, ih l.length (by omega) l rfl, List.append_assoc]
      · rw [norm_sign b l h, List.append_assoc, norm_take _ _ h, ih _ (by rw [List.length_drop, List.length_cons]; omega) _ rfl, List.append_assoc]
theorem norm_norm (s : List UInt8) : normL (normL s) = normL s := by
  have := norm_append s []
  rw [List.append_nil, norm_nil, List.append_nil] at this
  exact this
end Go.Proofs.YtfncppekjgbedaaDoor.Utf
end
section
namespace Go.Proofs.YtfncppekjgbedaaDoor.Pure
open Go.RowKit Go.Proofs.YtfncppekjgbedaaDoor.XU Go.Proofs.YtfncppekjgbedaaDoorW.PrintWords Go.Proofs.YtfncppekjgbedaaDoorW.PrintLast Go.Proofs.YtfncppekjgbedaaDoor.Base Go.Proofs.YtfncppekjgbedaaDoor.Ext Go.Proofs.YtfncppekjgbedaaDoor.Utf

/-- Byte i, 0 behind the end. -/
def B (s : ByteArray) (i : Nat) : Nat := bAt s.data.toList i
theorem B_lt (s : ByteArray) (i : Nat) : B s i < 256 := UInt8.toNat_lt _
theorem bt_B (s : ByteArray) (i : Nat) : bt s (i : Int) = (B s i : Nat) := by
  by_cases h : i < s.size
  · rw [bt_list s i h]; rfl
  · have : s.data.toList.length ≤ i := by rw [data_length]; omega
    unfold bt B bAt
    rw [List.getD_eq_getElem?_getD, List.getElem?_eq_none this]
    simp [h]
theorem B_drop (s : ByteArray) (i j : Nat) : bAt (s.data.toList.drop i) j = B s (i + j) := by
  unfold B bAt
  rw [List.getD_eq_getElem?_getD, List.getD_eq_getElem?_getD, List.getElem?_drop]
def contN (s : ByteArray) (i : Nat) : Nat → Nat → Bool
  | 0, _ => true
  | d + 1, j => (decide (128 ≤ B s (i + j)) && decide (B s (i + j) ≤ 191)) && contN s i d (j + 1)
def badD (c d : Nat) : Bool := decide ((c = 224 ∧ d < 160) ∨ (c = 237 ∧ d > 159) ∨ (c = 240 ∧ d < 144) ∨ (c = 244 ∧ d > 143))
theorem badD_iff {c d : Nat} : badD c d = true ↔ ((c = 224 ∧ d < 160) ∨ (c = 237 ∧ d > 159) ∨ (c = 240 ∧ d < 144) ∨ (c = 244 ∧ d > 143)) := decide_eq_true_iff
theorem wrap_add (i j : Nat) (h : i + j ≤ 4611686018427387904) : wrap64 ((i : Int) + (j : Int)) = ((i + j : Nat) : Int) := by unfold wrap64; omega
theorem wrap_one (i : Nat) (h : i ≤ 4611686018427387904) : wrap64 ((i : Int) + 1) = ((i + 1 : Nat) : Int) := by unfold wrap64; omega

set_option maxHeartbeats 1000000 in
theorem size_l0 (s : ByteArray) (i k c : Nat) (hs : s.size ≤ 1000000000000000) (hi : i + k ≤ s.size) (hk : 2 ≤ k) : ∀ (d j : Nat), j + d = k →
    Ev (fun f => stoleref1_Size.l0 f s (i : Int) (c : Int) (k : Int) (j : Int)) (if (contN s i d j && !badD c (B s (i + 1))) = true then (k : Int) else 0) := by
  intro d
  induction d with
  | zero =>
    intro j hj
    refine Ev.step (f := fun k => _) (fun k => by rw [stoleref1_Size.l0]) ?_
    refine Ev.neg (by omega) ?_
    rw [wrap_one i (by omega), bt_B]
    refine Ev.pos (by omega) (Ev.pos (by omega) ?_)
    have h1 : (contN s i 0 j && !badD c (B s (i + 1))) = !badD c (B s (i + 1)) := by rw [contN, Bool.true_and]
    rw [h1]
    refine Ev.ofSome ?_
    have hT : badD c (B s (i + 1)) = true → (some (0 : Int)) = some (if (!badD c (B s (i + 1))) = true then (k : Int) else 0) := fun h => by rw [h]; rfl
    have hF : ¬ badD c (B s (i + 1)) = true → (some (k : Int)) = some (if (!badD c (B s (i + 1))) = true then (k : Int) else 0) := fun h => by rw [Bool.not_eq_true] at h; rw [h]; rfl
    rw [badD_iff] at hT hF
    repeat' refine ite_both (fun _ => ?_) (fun _ => ?_)
    all_goals first
      | exact hT (by omega)
      | exact hF (by omega)
  | succ d ih =>
    intro j hj
    refine Ev.step (f := fun k => _) (fun k => by rw [stoleref1_Size.l0]) ?_
    rw [wrap_add i j (by omega), bt_B, wrap_one j (by omega)]
    refine Ev.pos (by omega) (Ev.pos (by omega) (Ev.pos (by omega) ?_))
    by_cases h1 : B s (i + j) < 128
    · refine Ev.pos (by omega) (Ev.cast (Ev.now 0) ?_)
      rw [contN, show decide (128 ≤ B s (i + j)) = false from decide_eq_false (by omega)]; rfl
    refine Ev.neg (by omega) ?_
    by_cases h2 : B s (i + j) > 191
    · refine Ev.pos (by omega) (Ev.cast (Ev.now 0) ?_)
      rw [contN, show decide (B s (i + j) ≤ 191) = false from decide_eq_false (by omega), Bool.and_false]; rfl
    refine Ev.neg (by omega) (Ev.cast (ih (j + 1) (by omega)) ?_)
    rw [contN, show decide (128 ≤ B s (i + j)) = true from decide_eq_true (by omega), show decide (B s (i + j) ≤ 191) = true from decide_eq_true (by omega), Bool.true_and, Bool.true_and]

def lenOf (c : Nat) : Nat := if 194 ≤ c ∧ c ≤ 223 then 2 else if 224 ≤ c ∧ c ≤ 239 then 3 else if 240 ≤ c ∧ c ≤ 244 then 4 else 0
def szB (s : ByteArray) (i : Nat) : Nat :=
  if B s i < 128 then 1 else if lenOf (B s i) = 0 ∨ s.size < i + lenOf (B s i) then 0 else if (contN s i (lenOf (B s i) - 1) 1 && !badD (B s i) (B s (i + 1))) = true then lenOf (B s i) else 0

theorem size_j2 (s : ByteArray) (i c k : Nat) (hs : s.size ≤ 1000000000000000) (hi : i < s.size) (hk : k = 0 ∨ 2 ≤ k) (hk4 : k ≤ 4) :
    Ev (fun f => stoleref1_Size.j2 f s (i : Int) (c : Int) (k : Int)) (if k = 0 ∨ s.size < i + k then (0 : Int) else if (contN s i (k - 1) 1 && !badD c (B s (i + 1))) = true then (k : Int) else 0) := by
  refine Ev.step (f := fun k => _) (fun k => by rw [stoleref1_Size.j2]) ?_
  by_cases h0 : k = 0
  · refine Ev.pos (by omega) ?_
    refine Ev.step (f := fun k => _) (fun k => by rw [stoleref1_Size.j3]) ?_
    exact Ev.cast (Ev.pos rfl (Ev.now 0)) (by rw [if_pos (.inl h0)])
  refine Ev.neg (by omega) ?_
  refine Ev.step (f := fun k => _) (fun k => by rw [stoleref1_Size.j3]) ?_
  rw [wrap_add i k (by omega)]
  by_cases h1 : s.size < i + k
  · exact Ev.cast (Ev.pos (decide_eq_true (by omega)) (Ev.now 0)) (by rw [if_pos (.inr h1)])
  · refine Ev.neg (by rw [decide_eq_true_iff]; omega) ?_
    rw [if_neg (by omega)]
    exact size_l0 s i k c hs (by omega) (by omega) (k - 1) 1 (by omega)

theorem size_ev (s : ByteArray) (i : Nat) (hs : s.size ≤ 1000000000000000) (hi : i < s.size) : Ev (fun f => stoleref1_Size.f f s (i : Int)) ((szB s i : Nat) : Int) := by
  unfold stoleref1_Size.f
  rw [bt_B]
  refine Ev.pos (by omega) (Ev.pos (by omega) ?_)
  unfold szB
  generalize hc : B s i = c
  by_cases h1 : c < 128
  · exact Ev.cast (Ev.pos (by omega) (Ev.now 1)) (by rw [if_pos h1]; rfl)
  refine Ev.neg (by omega) ?_
  rw [if_neg h1]
  have key : ∀ k, lenOf c = k → (k = 0 ∨ 2 ≤ k) → k ≤ 4 → Ev (fun f => stoleref1_Size.j2 f s (i : Int) (c : Int) (k : Int)) (((if lenOf c = 0 ∨ s.size < i + lenOf c then 0 else if (contN s i (lenOf c - 1) 1 && !badD c (B s (i + 1))) = true then lenOf c else 0 : Nat)) : Int) := by
    intro k hk h2 h3
    rw [hk]
    refine Ev.cast (size_j2 s i c k hs hi h2 h3) ?_
    split
    · rfl
    · split <;> rfl
  have hJ1 : ∀ b : Bool, (b = true ↔ (224 ≤ c ∧ c ≤ 239)) → ¬ (194 ≤ c ∧ c ≤ 223) → Ev (fun f => stoleref1_Size.j1 f s (i : Int) (c : Int) 0 b) (((if lenOf c = 0 ∨ s.size < i + lenOf c then 0 else if (contN s i (lenOf c - 1) 1 && !badD c (B s (i + 1))) = true then lenOf c else 0 : Nat)) : Int) := by
    intro b hb hn
    refine Ev.step (f := fun k => _) (fun k => by rw [stoleref1_Size.j1]) ?_
    by_cases h : 224 ≤ c ∧ c ≤ 239
    · exact Ev.pos (hb.2 h) (key 3 (by unfold lenOf; rw [if_neg hn, if_pos h]) (by omega) (by omega))
    refine Ev.neg (fun e => h (hb.1 e)) ?_
    by_cases h4 : 240 ≤ c ∧ c ≤ 244
    · exact Ev.pos (by omega) (Ev.pos (by omega) (key 4 (by unfold lenOf; rw [if_neg hn, if_neg h, if_pos h4]) (by omega) (by omega)))
    · have k0 := key 0 (by unfold lenOf; rw [if_neg hn, if_neg h, if_neg h4]) (by omega) (by omega)
      by_cases h5 : 240 ≤ c
      · exact Ev.pos (by omega) (Ev.neg (by omega) k0)
      · exact Ev.neg (by omega) k0
  have hJ0 : ∀ b : Bool, (b = true ↔ (194 ≤ c ∧ c ≤ 223)) → Ev (fun f => stoleref1_Size.j0 f s (i : Int) (c : Int) 0 b) (((if lenOf c = 0 ∨ s.size < i + lenOf c then 0 else if (contN s i (lenOf c - 1) 1 && !badD c (B s (i + 1))) = true then lenOf c else 0 : Nat)) : Int) := by
    intro b hb
    refine Ev.step (f := fun k => _) (fun k => by rw [stoleref1_Size.j0]) ?_
    by_cases h : 194 ≤ c ∧ c ≤ 223
    · exact Ev.pos (hb.2 h) (key 2 (by unfold lenOf; rw [if_pos h]) (by omega) (by omega))
    refine Ev.neg (fun e => h (hb.1 e)) ?_
    by_cases h5 : 224 ≤ c
    · exact Ev.pos (by omega) (hJ1 _ (by rw [decide_eq_true_iff]; omega) h)
    · exact Ev.neg (by omega) (hJ1 _ ⟨fun h => (by cases h), fun h => (by omega)⟩ h)
  by_cases h6 : 194 ≤ c
  · exact Ev.pos (by omega) (hJ0 _ (by rw [decide_eq_true_iff]; omega))
  · exact Ev.neg (by omega) (hJ0 _ ⟨fun h => (by cases h), fun h => (by omega)⟩)

/-- What Size tells is the first sign's length, but at a byte 0. -/
theorem szB_sign (s : ByteArray) (i : Nat) (hi : i < s.size) : signL (s.data.toList.drop i) = if B s i = 0 then 0 else szB s i := by
  have hl : (s.data.toList.drop i).length = s.size - i := by rw [List.length_drop, data_length]
  have hne : ¬ s.data.toList.drop i = [] := fun e => by rw [e] at hl; simp at hl; omega
  unfold signL
  rw [if_neg hne, hl, B_drop, B_drop, B_drop, B_drop, Nat.add_zero]
  unfold sgnN szB lenOf
  by_cases h0 : B s i = 0
  · rw [if_pos h0, if_pos h0]
  rw [if_neg h0, if_neg h0]
  by_cases h1 : B s i < 128
  · rw [if_pos h1, if_pos h1]
  rw [if_neg h1, if_neg h1]
  by_cases h2 : 194 ≤ B s i ∧ B s i ≤ 223
  · rw [if_pos h2, if_pos h2]
    have hb : badD (B s i) (B s (i + 1)) = false := by rw [← Bool.not_eq_true, badD_iff]; omega
    simp only [contN, hb, Bool.and_true, Bool.not_false, Bool.and_eq_true, decide_eq_true_eq]
    by_cases hn : s.size < i + 2
    · rw [if_neg (by omega), if_pos (.inr hn)]
    · rw [if_neg (show ¬ (2 = 0 ∨ s.size < i + 2) by omega)]
      by_cases hc : 128 ≤ B s (i + 1) ∧ B s (i + 1) ≤ 191
      · rw [if_pos (by omega), if_pos hc]
      · rw [if_neg (by omega), if_neg hc]
  rw [if_neg h2, if_neg h2]
  by_cases h3 : 224 ≤ B s i ∧ B s i ≤ 239
  · rw [if_pos h3, if_pos h3]
    have e2 : i + (1 + 1) = i + 2 := rfl
    simp only [contN, e2, Bool.and_true, Bool.and_eq_true, decide_eq_true_eq, Bool.not_eq_true', ← Bool.not_eq_true, badD_iff]
    by_cases hn : s.size < i + 3
    · rw [if_neg (by omega), if_pos (.inr hn)]
    · rw [if_neg (show ¬ (3 = 0 ∨ s.size < i + 3) by omega)]
      by_cases hc : ((128 ≤ B s (i + 1) ∧ B s (i + 1) ≤ 191) ∧ 128 ≤ B s (i + 2) ∧ B s (i + 2) ≤ 191) ∧ ¬ ((B s i = 224 ∧ B s (i + 1) < 160) ∨ (B s i = 237 ∧ B s (i + 1) > 159) ∨ (B s i = 240 ∧ B s (i + 1) < 144) ∨ (B s i = 244 ∧ B s (i + 1) > 143))
      · rw [if_pos (by omega), if_pos hc]
      · rw [if_neg (by omega), if_neg hc]
  rw [if_neg h3, if_neg h3]
  by_cases h4 : 240 ≤ B s i ∧ B s i ≤ 244
  · rw [if_pos h4, if_pos h4]
    have e2 : i + (1 + 1) = i + 2 := rfl
    have e3 : i + (1 + 1 + 1) = i + 3 := rfl
    simp only [contN, e2, e3, Bool.and_true, Bool.and_eq_true, decide_eq_true_eq, Bool.not_eq_true', ← Bool.not_eq_true, badD_iff]
    by_cases hn : s.size < i + 4
    · rw [if_neg (by omega), if_pos (.inr hn)]
    · rw [if_neg (show ¬ (4 = 0 ∨ s.size < i + 4) by omega)]
      by_cases hc : ((128 ≤ B s (i + 1) ∧ B s (i + 1) ≤ 191) ∧ (128 ≤ B s (i + 2) ∧ B s (i + 2) ≤ 191) ∧ 128 ≤ B s (i + 3) ∧ B s (i + 3) ≤ 191) ∧ ¬ ((B s i = 224 ∧ B s (i + 1) < 160) ∨ (B s i = 237 ∧ B s (i + 1) > 159) ∨ (B s i = 240 ∧ B s (i + 1) < 144) ∨ (B s i = 244 ∧ B s (i + 1) > 143))
      · rw [if_pos (by omega), if_pos hc]
      · rw [if_neg (by omega), if_neg hc]
  rw [if_neg h4, if_neg h4, if_pos (.inl rfl)]

theorem norm_at (s : ByteArray) (i : Nat) (hi : i < s.size) : normL (s.data.toList.drop i) = if signL (s.data.toList.drop i) = 0 then bad ++ normL (s.data.toList.drop (i + 1)) else (s.data.toList.drop i).take (signL (s.data.toList.drop i)) ++ normL (s.data.toList.drop (i + signL (s.data.toList.drop i))) := by
  obtain ⟨c, l, h⟩ : ∃ c l, s.data.toList.drop i = c :: l := by
    cases h : s.data.toList.drop i with
    | nil => have := congrArg List.length h; rw [List.length_drop, data_length] at this; simp at this; omega
    | cons c l => exact ⟨c, l, rfl⟩
  have h1 := drop_next s i h
  rw [h1, ← List.drop_drop, h]
  by_cases hk : signL (c :: l) = 0
  · rw [if_pos hk, norm_bad _ _ hk]
  · rw [if_neg hk, norm_sign _ _ hk]

def sg (s : ByteArray) (i : Nat) : Nat := signL (s.data.toList.drop i)
theorem sg_le (s : ByteArray) (i : Nat) : i ≤ s.size → i + sg s i ≤ s.size := by
  intro h
  have := sign_le (s.data.toList.drop i)
  rw [List.length_drop, data_length] at this
  unfold sg; omega
theorem strOfNums_bytes (l : List UInt8) : strOfNums (l.map fun b => (b.toNat : Int)) = ⟨l.toArray⟩ := by
  apply ext_list
  rw [strOfNums_data, List.map_map]
  show _ = l
  conv => rhs; rw [← List.map_id l]
  refine List.map_congr_left fun b _ => ?_
  show UInt8.ofNat ((b.toNat : Int).toNat) = b
  rw [Int.toNat_natCast, UInt8.ofNat_toNat]
def nums (l : List UInt8) : List Int := l.map fun b => (b.toNat : Int)

theorem refNorm_ev (s : ByteArray) (hs : s.size ≤ 10000000000000) : ∀ (d i : Nat) (acc : List UInt8), s.size - i = d → i ≤ s.size → acc.length + 3 * (s.size - i) ≤ 3 * s.size →
    Ev (fun k => stoleref1_Norm.l0 k s (nums acc) (i : Int)) ⟨(acc ++ normL (s.data.toList.drop i)).toArray⟩ := by
  intro d
  induction d using Nat.strongRecOn with
  | _ d ih =>
    intro i acc hd hi hlen
    have hnl : (nums acc).length = acc.length := by unfold nums; rw [List.length_map]
    refine Ev.step (f := fun k => _) (fun k => by rw [stoleref1_Norm.l0]) ?_
    by_cases he : i = s.size
    · refine Ev.neg (by omega) (Ev.cast (Ev.now _) ?_)
      have : s.data.toList.drop i = [] := List.drop_eq_nil_of_le (by rw [data_length]; omega)
      rw [this, norm_nil, List.append_nil]
      exact strOfNums_bytes acc
    refine Ev.pos (by omega) (Ev.bind (size_ev s i (by omega) (by omega)) ?_)
    have hz := szB_sign s i (by omega)
    have hst := norm_at s i (by omega)
    have hb3 : nums bad = [239, 191, 189] := by decide +kernel
    have hbad : ∀ (h : sg s i = 0), Ev (fun k => (some (([239, 191, 189] : List Int) : List Int)).bind fun y => if (nums acc).length + y.length < 140737488355328 then stoleref1_Norm.l0 k s (nums acc ++ y) (wrap64 ((i : Int) + 1)) else none) ⟨(acc ++ normL (s.data.toList.drop i)).toArray⟩ := by
      intro h
      unfold sg at h
      refine Ev.bindC rfl (Ev.pos (by rw [hnl]; simp; omega) ?_)
      rw [wrap_one i (by omega), ← hb3, show nums acc ++ nums bad = nums (acc ++ bad) from by unfold nums; rw [List.map_append]]
      refine Ev.cast (ih (s.size - (i + 1)) (by omega) (i + 1) (acc ++ bad) rfl (by omega) (by rw [List.length_append]; simp only [bad, List.length_cons, List.length_nil]; omega)) ?_
      rw [hst, if_pos h, List.append_assoc]
    by_cases h0 : szB s i = 0
    · refine Ev.pos (by omega) (hbad ?_)
      unfold sg
      rw [hz, h0]; split <;> rfl
    refine Ev.neg (by omega) (Ev.pos (by omega) ?_)
    rw [bt_B]
    by_cases h1 : B s i = 0
    · exact Ev.pos (by omega) (hbad (by unfold sg; rw [hz, if_pos h1]))
    refine Ev.neg (by omega) ?_
    rw [if_neg h1] at hz
    have hsl := sg_le s i hi
    unfold sg at hsl
    rw [hz] at hst hsl
    rw [wrap_add i (szB s i) (by omega)]
    have hex : (s.extract (i : Int).toNat (((i + szB s i : Nat) : Int)).toNat).data.toList = (s.data.toList.drop i).take (szB s i) := by
      rw [Int.toNat_natCast, Int.toNat_natCast, Lib.extract_data, Nat.add_sub_cancel_left]
    have hexs : (s.extract (i : Int).toNat (((i + szB s i : Nat) : Int)).toNat).size = szB s i := by
      rw [← data_length, hex, List.length_take, List.length_drop, data_length]; omega
    refine Ev.pos (by omega) (Ev.pos (by omega) (Ev.pos (by rw [hnl, hexs]; omega) ?_))
    have e : nums acc ++ bytesOf (s.extract (i : Int).toNat (((i + szB s i : Nat) : Int)).toNat) = nums (acc ++ (s.data.toList.drop i).take (szB s i)) := by
      unfold nums bytesOf
      rw [hex, List.map_append]
    rw [e]
    refine Ev.cast (ih (s.size - (i + szB s i)) (by omega) (i + szB s i) _ rfl (by omega) (by rw [List.length_append, List.length_take, List.length_drop, data_length]; omega)) ?_
    rw [hst, if_neg h0, List.append_assoc]

theorem refNorm_ok (s : ByteArray) (hs : s.size ≤ 10000000000000) : Ev (fun k => stoleref1_Norm.f k s) (normS s) :=
  refNorm_ev s hs s.size 0 [] rfl (by omega) (by simp)
end Go.Proofs.YtfncppekjgbedaaDoor.Pure
end
section
namespace Go.Proofs.YtfncppekjgbedaaDoor.Pure
open Go.RowKit Go.Proofs.YtfncppekjgbedaaDoor.XU Go.Proofs.YtfncppekjgbedaaDoor.Ext Go.Proofs.YtfncppekjgbedaaDoor.Sync Go.Proofs.YtfncppekjgbedaaDoor.Utf Go.Proofs.YtfncppekjgbedaaDoor.Base Go.Proofs.YtfncppekjgbedaaDoorW.PrintWords Go.Proofs.YtfncppekjgbedaaDoorW.PrintLast
set_option linter.unusedVariables false
set_option linter.unusedSimpArgs false

theorem six_fact : ∀ c : Fin 256, ∃ h l, stolelaw9_sixteen.f ((dgU (c.val / 16)).toNat : Int) = some h ∧ stolelaw9_sixteen.f ((dgU (c.val % 16)).toNat : Int) = some l ∧ Go.bits .or .u8 ((h * 16) % 256) l = (c.val : Int) := by
  intro c
  have hs : ∀ j : Fin 16, stolelaw9_sixteen.f ((dgU j.val).toNat : Int) = some (j.val : Int) := by decide +kernel
  have ho : ∀ c : Fin 256, Go.bits .or .u8 ((((c.val / 16 : Nat) : Int) * 16) % 256) ((c.val % 16 : Nat) : Int) = (c.val : Int) := by decide +kernel
  exact ⟨_, _, hs ⟨c.val / 16, by omega⟩, hs ⟨c.val % 16, by omega⟩, ho c⟩
theorem wr_app2 (l a b : List UInt8) : wrL l (a ++ b) = wrL l a ++ wrL l b := by unfold wrL; rw [List.flatMap_append]
theorem part_minus (s : ByteArray) : partS (normS s ++ (⟨#[45]⟩ : ByteArray)) = partS s ++ (⟨#[45]⟩ : ByteArray) := by
  apply ext_bytes
  have hn : (normS (normS s ++ (⟨#[45]⟩ : ByteArray))).data.toList = (normS s).data.toList ++ [45] := by
    show normL (normS s ++ (⟨#[45]⟩ : ByteArray)).data.toList = _
    rw [data_append]
    show normL (normL s.data.toList ++ [45]) = normL s.data.toList ++ [45]
    rw [norm_append, norm_plain [45] (by simp)]
  show wrL keepSet (normS _).data.toList = _
  rw [hn, wr_app2, data_append]
  have e : wrL keepSet [45] = [45] := by decide +kernel
  rw [e]; rfl
theorem part_tilde (s : ByteArray) : partS ((⟨#[126]⟩ : ByteArray) ++ s) = (⟨#[126]⟩ : ByteArray) ++ partS s := by
  apply ext_bytes
  have hs : signL (126 :: s.data.toList) = 1 := by
    unfold signL
    rw [if_neg (by simp)]
    have e : bAt (126 :: s.data.toList) 0 = 126 := rfl
    rw [e]; unfold sgnN
    rw [if_neg (by omega), if_pos (by omega)]
  have hn : (normS ((⟨#[126]⟩ : ByteArray) ++ s)).data.toList = 126 :: (normS s).data.toList := by
    show normL ((⟨#[126]⟩ : ByteArray) ++ s).data.toList = _
    rw [data_append]
    show normL (126 :: s.data.toList) = _
    rw [norm_sign _ _ (by rw [hs]; decide), hs]; rfl
  have e0 : ∀ y : ByteArray, (partS y).data.toList = wrL keepSet (normS y).data.toList := fun _ => rfl
  have e : wr1 keepSet 126 = [126] := by decide +kernel
  have e3 : ∀ l, wrL keepSet (126 :: l) = wr1 keepSet 126 ++ wrL keepSet l := fun _ => rfl
  rw [e0, hn, data_append, e0 s, e3, e]
theorem back_end (s x : ByteArray) (hs : s.size ≤ 1048576) (hx : partS s = x) (hxs : x.size ≤ 10000000000000) (i : Nat) (hi : i = x.size) :
    Ev (fun k => stolelaw9_UrlBack.l0 k s x (nums (normS s).data.toList) (i : Int)) true := by
  have hn := refNorm_ok s (by omega)
  have hz := normS_size s
  have e1 : (⟨#[45]⟩ : ByteArray).size = 1 := rfl
  have e2 : (⟨#[126]⟩ : ByteArray).size = 1 := rfl
  refine Ev.step (f := fun k => _) (fun k => by rw [stolelaw9_UrlBack.l0]) ?_
  refine Ev.neg (by omega) (Ev.bind hn (Ev.pos ?_ (Ev.bind hn (Ev.pos (by omega) (Ev.bindC (part_f _ (by rw [size_append, e1]; omega)) (Ev.pos (by omega) (Ev.pos (by rw [part_minus, hx]) (Ev.pos (by omega) (Ev.bindC (part_f _ (by rw [size_append, e2]; omega)) (Ev.pos (by omega) (Ev.ofSome ?_)))))))))))
  · have : strOfNums (nums (normS s).data.toList) = normS s := ext_bytes (by rw [show strOfNums (nums (normS s).data.toList) = ⟨(normS s).data.toList.toArray⟩ from strOfNums_bytes _])
    rw [this]
  · rw [part_tilde, hx]; simp
theorem back_l0 (s x : ByteArray) (hs : s.size ≤ 1048576) (hx : partS s = x) (hxs : x.size ≤ 10000000000000) : ∀ (rest pre : List UInt8), (normS s).data.toList = pre ++ rest →
    Ev (fun k => stolelaw9_UrlBack.l0 k s x (nums pre) ((wrL keepSet pre).length : Int)) true := by
  have hxl : x.data.toList = wrL keepSet (normS s).data.toList := by rw [← hx]; rfl
  have hxz : x.size = (wrL keepSet (normS s).data.toList).length := by rw [← hxl]; rfl
  intro rest
  induction rest with
  | nil =>
    intro pre h
    rw [List.append_nil] at h
    rw [← h]
    exact back_end s x hs hx hxs _ hxz.symm
  | cons b rest ih =>
    intro pre h
    have ih' := ih (pre ++ [b]) (by rw [h]; simp)
    have hw1 : wrL keepSet (b :: rest) = wr1 keepSet b ++ wrL keepSet rest := rfl
    have hdrop : x.data.toList.drop (wrL keepSet pre).length = wr1 keepSet b ++ wrL keepSet rest := by rw [hxl, h, wr_app2, List.drop_left, hw1]
    have hlen : x.size = (wrL keepSet pre).length + (wr1 keepSet b).length + (wrL keepSet rest).length := by rw [hxz, h, wr_app2, hw1]; simp; omega
    have hpl := wr_ge keepSet pre
    have hpost : wrL keepSet (pre ++ [b]) = wrL keepSet pre ++ wr1 keepSet b := by rw [wr_app2]; show _ ++ (wr1 keepSet b ++ []) = _; rw [List.append_nil]
    rw [hpost, List.length_append] at ih'
    have hnum : nums (pre ++ [b]) = nums pre ++ [(b.toNat : Int)] := by unfold nums; rw [List.map_append]; rfl
    rw [hnum] at ih'
    have hnl : (nums pre).length = pre.length := by unfold nums; simp
    generalize hi : (wrL keepSet pre).length = i at *
    refine Ev.step (f := fun k => _) (fun k => by rw [stolelaw9_UrlBack.l0]) ?_
    by_cases hin : inSet keepSet b.toNat = true
    · have hw : wr1 keepSet b = [b] := by unfold wr1; rw [if_pos hin]
      rw [hw] at hdrop hlen ih'
      have hb := bt_drop x i hdrop
      have h37 := (keepB b hin).2.2.2
      simp only [List.length_singleton] at hlen ih'
      have g1 : (i : Int) < (x.size : Int) := by omega
      have g2 : (0 : Int) ≤ (i : Int) := by omega
      have g3 : ¬ ((b.toNat : Int) = 37) := by omega
      have g4 : (nums pre).length < 140737488355328 := by omega
      have g5 : wrap64 ((i : Int) + 1) = ((i + 1 : Nat) : Int) := wrap_next (n := 100000000000000) (by omega) (by decide)
      refine Ev.pos g1 (Ev.pos g2 ?_)
      rw [hb, g5]
      exact Ev.neg g3 (Ev.pos g4 ih')
    · have hw : wr1 keepSet b = [37, dgU (b.toNat / 16), dgU (b.toNat % 16)] := by unfold wr1; rw [if_neg hin]
      rw [hw] at hdrop hlen ih'
      simp only [List.length_cons, List.length_nil, Nat.zero_add] at hlen ih'
      have hb := bt_drop x i hdrop
      have hd1 := drop_next x i hdrop
      have hb1 := bt_drop x (i + 1) hd1
      have hd2 := drop_next x (i + 1) hd1
      have hb2 := bt_drop x (i + 2) hd2
      obtain ⟨hh, ll, s1, s2, s3⟩ := six_fact ⟨b.toNat, b.toNat_lt⟩
      simp only at s1 s2 s3
      have g1 : (i : Int) < (x.size : Int) := by omega
      have g2 : (0 : Int) ≤ (i : Int) := by omega
      have g3 : ¬ ((x.size : Int) ≤ ((i + 2 : Nat) : Int)) := by omega
      have g4 : (nums pre).length < 140737488355328 := by omega
      have g5 : (0 : Int) ≤ ((i + 1 : Nat) : Int) := by omega
      have g6 : ((i + 1 : Nat) : Int) < (x.size : Int) := by omega
      have g7 : (0 : Int) ≤ ((i + 2 : Nat) : Int) := by omega
      have g8 : ((i + 2 : Nat) : Int) < (x.size : Int) := by omega
      have hi9 : i < 100000000000000 := by omega
      clear hlen hxz hpl hnl
      have w1 : wrap64 ((i : Int) + 1) = ((i + 1 : Nat) : Int) := wrap_next (n := 100000000000000) hi9 (by decide)
      have w2 : wrap64 ((i : Int) + 2) = ((i + 2 : Nat) : Int) := by clear w1; unfold wrap64; omega
      have w3 : wrap64 (((i + 2 : Nat) : Int) + 1) = ((i + (1 + 1 + 1) : Nat) : Int) := by clear w1 w2; unfold wrap64; omega
      refine Ev.pos g1 (Ev.pos g2 ?_)
      rw [hb, w1, w2, hb1, hb2, w3]
      refine Ev.pos rfl (Ev.neg g3 (Ev.pos g5 (Ev.pos g6 (Ev.bindC s1 (Ev.pos g7 (Ev.pos g8 (Ev.bindC s2 ?_)))))))
      rw [s3]
      exact Ev.pos g4 ih'
theorem UrlBack (s : ByteArray) (_ : s.size ≤ 140737488351232) (hb : s.size ≤ 1048576) : ∃ k, stolelaw9_UrlBack.f k s = some true := by
  have h2 := part_size s
  have hE : Ev (fun k => stolelaw9_UrlBack.f k s) true := by
    unfold stolelaw9_UrlBack.f
    refine Ev.bindC awake9 (Ev.pos rfl (Ev.bindC (part_f s (by omega)) ?_))
    exact back_l0 s (partS s) hb rfl (by omega) (normS s).data.toList [] rfl
  obtain ⟨n, hn⟩ := hE
  exact ⟨n, hn n (Nat.le_refl _)⟩
end Go.Proofs.YtfncppekjgbedaaDoor.Pure
end
