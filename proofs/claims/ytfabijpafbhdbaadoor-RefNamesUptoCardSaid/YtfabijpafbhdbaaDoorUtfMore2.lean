/- The norm of a norm, and of parts: plain lists of bytes, no program. -/
import Derived.Test.YtfabijpafbhdbaaDoorUtfMore
namespace Go.Proofs.YtfabijpafbhdbaaDoor.Utf

theorem bAt_cons_zero (c : UInt8) (l : List UInt8) : bAt (c :: l) 0 = c.toNat := rfl
theorem bAt_append (l m : List UInt8) (i : Nat) (h : i < l.length) : bAt (l ++ m) i = bAt l i := by
  unfold bAt
  rw [List.getD_eq_getElem?_getD, List.getD_eq_getElem?_getD, List.getElem?_append_left h]
theorem bAt_take (l : List UInt8) (k i : Nat) (h : i < k) : bAt (l.take k) i = bAt l i := by
  unfold bAt
  rw [List.getD_eq_getElem?_getD, List.getD_eq_getElem?_getD, List.getElem?_take, if_pos h]

/-- A sign hangs on its own bytes alone. -/
theorem sgn_more (n m b0 b1 b2 b3 c1 c2 c3 : Nat) (k : Nat) (hk : k ≠ 0) (h : sgnN n b0 b1 b2 b3 = k) (hm : k ≤ m) (h1 : 1 < k → c1 = b1) (h2 : 2 < k → c2 = b2) (h3 : 3 < k → c3 = b3) : sgnN m b0 c1 c2 c3 = k := by
  subst h
  revert hk hm h1 h2 h3
  unfold sgnN
  by_cases e0 : b0 = 0
  · simp [e0]
  simp only [if_neg e0]
  by_cases e1 : b0 < 128
  · simp [e1]
  simp only [if_neg e1]
  by_cases e2 : 194 ≤ b0 ∧ b0 ≤ 223
  · simp only [if_pos e2]
    by_cases e3 : 2 ≤ n ∧ 128 ≤ b1 ∧ b1 ≤ 191
    · simp only [if_pos e3]
      intro _ hm h1 _ _
      have := h1 (by omega)
      rw [if_pos (by omega)]
    · simp only [if_neg e3]; intro h; exact absurd rfl h
  simp only [if_neg e2]
  by_cases e4 : 224 ≤ b0 ∧ b0 ≤ 239
  · simp only [if_pos e4]
    by_cases e3 : 3 ≤ n ∧ 128 ≤ b1 ∧ b1 ≤ 191 ∧ 128 ≤ b2 ∧ b2 ≤ 191 ∧ ¬ (b0 = 224 ∧ b1 < 160) ∧ ¬ (b0 = 237 ∧ b1 > 159)
    · simp only [if_pos e3]
      intro _ hm h1 h2 _
      have := h1 (by omega)
      have := h2 (by omega)
      rw [if_pos (by omega)]
    · simp only [if_neg e3]; intro h; exact absurd rfl h
  simp only [if_neg e4]
  by_cases e5 : 240 ≤ b0 ∧ b0 ≤ 244
  · simp only [if_pos e5]
    by_cases e3 : 4 ≤ n ∧ 128 ≤ b1 ∧ b1 ≤ 191 ∧ 128 ≤ b2 ∧ b2 ≤ 191 ∧ 128 ≤ b3 ∧ b3 ≤ 191 ∧ ¬ (b0 = 240 ∧ b1 < 144) ∧ ¬ (b0 = 244 ∧ b1 > 143)
    · simp only [if_pos e3]
      intro _ hm h1 h2 h3
      have := h1 (by omega)
      have := h2 (by omega)
      have := h3 (by omega)
      rw [if_pos (by omega)]
    · simp only [if_neg e3]; intro h; exact absurd rfl h
  simp only [if_neg e5]; intro h; exact absurd rfl h

/-- What begins with the bytes of a sign begins with that sign, whatever follows. -/
theorem sign_take (l m : List UInt8) (h : signL l ≠ 0) : signL (l.take (signL l) ++ m) = signL l := by
  have hle := sign_le l
  cases l with
  | nil => exact absurd rfl h
  | cons c l =>
    have hd : signL (c :: l) = sgnN (c :: l).length (bAt (c :: l) 0) (bAt (c :: l) 1) (bAt (c :: l) 2) (bAt (c :: l) 3) := by unfold signL; rw [if_neg (by simp)]
    generalize hk : signL (c :: l) = k at *
    obtain ⟨j, rfl⟩ : ∃ j, k = j + 1 := ⟨k - 1, by omega⟩
    have hne : ¬ (c :: l).take (j + 1) ++ m = [] := by simp
    have htl : ((c :: l).take (j + 1)).length = j + 1 := by rw [List.length_take]; omega
    unfold signL
    rw [if_neg hne]
    have hb : ∀ i, i < j + 1 → bAt ((c :: l).take (j + 1) ++ m) i = bAt (c :: l) i := fun i hi => by rw [bAt_append _ _ _ (by omega), bAt_take _ _ _ hi]
    rw [hb 0 (by omega)]
    exact sgn_more _ _ _ _ _ _ _ _ _ _ h hd.symm (by rw [List.length_append, htl]; omega) (fun h => hb 1 h) (fun h => hb 2 h) (fun h => hb 3 h)
theorem norm_take (l m : List UInt8) (h : signL l ≠ 0) : normL (l.take (signL l) ++ m) = l.take (signL l) ++ normL m := by
  have hs := sign_take l m h
  have hle := sign_le l
  cases l with
  | nil => exact absurd rfl h
  | cons c l =>
    obtain ⟨j, hj⟩ : ∃ j, signL (c :: l) = j + 1 := ⟨signL (c :: l) - 1, by omega⟩
    rw [hj] at hs hle ⊢
    have htl : ((c :: l).take (j + 1)).length = j + 1 := by rw [List.length_take]; omega
    have e : (c :: l).take (j + 1) ++ m = c :: (l.take j ++ m) := by rw [List.take_succ_cons]; rfl
    rw [e] at hs ⊢
    rw [norm_sign c _ (by omega), hs, ← e, List.take_append_of_le_length (by omega), List.take_of_length_le (by omega), List.drop_append_of_le_length (by omega), List.drop_of_length_le (by omega), List.nil_append]
theorem norm_badd (m : List UInt8) : normL (bad ++ m) = bad ++ normL m := by
  have h : signL (bad ++ m) = 3 := by
    unfold signL
    rw [if_neg (by simp [bad])]
    show sgnN (m.length + 3) 239 191 189 _ = 3
    unfold sgnN
    simp
  have e : bad ++ m = 239 :: ([191, 189] ++ m) := rfl
  rw [e] at h ⊢
  rw [norm_sign _ _ (by omega), h]
  rfl
/-- A norm ahead stays. -/
theorem norm_append (s t : List UInt8) : normL (normL s ++ t) = normL s ++ normL t := by
  generalize hn : s.length = n
  induction n using Nat.strongRecOn generalizing s with
  | _ n ih =>
    cases s with
    | nil => rfl
    | cons b l =>
      simp only [List.length_cons] at hn
      by_cases h : signL (b :: l) = 0
      · rw [norm_bad b l h, List.append_assoc, norm_badd, ih l.length (by omega) l rfl, List.append_assoc]
      · rw [norm_sign b l h, List.append_assoc, norm_take _ _ h, ih _ (by rw [List.length_drop, List.length_cons]; omega) _ rfl, List.append_assoc]
theorem norm_norm (s : List UInt8) : normL (normL s) = normL s := by
  have := norm_append s []
  rw [List.append_nil, norm_nil, List.append_nil] at this
  exact this
end Go.Proofs.YtfabijpafbhdbaaDoor.Utf
