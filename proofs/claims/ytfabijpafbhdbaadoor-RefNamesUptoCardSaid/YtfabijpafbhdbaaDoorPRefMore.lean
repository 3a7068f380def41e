/- refs: what is encoded is decoded; what is encoded has no sign that could end a text: no program. -/
import Derived.Test.YtfabijpafbhdbaaDoorPRefPlain
namespace Go.Proofs.YtfabijpafbhdbaaDoor.Refs
open Go.Lib Go.Proofs.YtfabijpafbhdbaaDoor.Utf

/-- A text of references is normed. -/
theorem encL_nil : encL [] = [] := rfl
theorem encL_cons (b : UInt8) (l : List UInt8) : encL (b :: l) = encB b ++ encL l := rfl
theorem encL_append (l m : List UInt8) : encL (l ++ m) = encL l ++ encL m := List.flatMap_append ..

theorem ref_amp (w : List UInt8) (c : UInt8) (t : List UInt8) (hw : w.length ≤ 9) (h59 : (59 : UInt8) ∉ w) (hm : meantL w = some [c]) : decL (38 :: (w ++ 59 :: t)) = c :: decL t := by
  have hib : indexByte ((38 :: (w ++ 59 :: t)).take 11) 59 = ((w.length + 1 : Nat) : Int) := by
    have h1 : (38 :: (w ++ 59 :: t)).take 11 = (38 :: w) ++ 59 :: t.take (9 - w.length) := by
      have : ((38 : UInt8) :: (w ++ 59 :: t)) = (38 :: w) ++ 59 :: t := rfl
      rw [this, List.take_append, List.take_of_length_le (by simp only [List.length_cons]; omega)]
      have : 11 - (38 :: w).length = (9 - w.length) + 1 := by simp only [List.length_cons]; omega
      rw [this, List.take_succ_cons]
    rw [h1, indexByte_at _ _ _ (by
      intro h
      rcases List.mem_cons.1 h with h | h
      · cases h
      · exact h59 h)]
    rfl
  have hr : refAt (38 :: (w ++ 59 :: t)) = some ([c], (w.length + 1) + 1) := by
    unfold refAt
    rw [hib, if_pos (by omega)]
    have : ((38 :: (w ++ 59 :: t)).take ((w.length + 1 : Nat) : Int).toNat).drop 1 = w := by
      rw [Int.toNat_natCast, List.take_succ_cons]
      show (w ++ 59 :: t).take w.length = w
      rw [List.take_left]
    rw [this, hm]; rfl
  rw [decL_some _ _ _ hr]
  have : (w ++ 59 :: t).drop (w.length + 1) = t := by
    rw [List.drop_append, List.drop_eq_nil_of_le (by omega)]
    simp
  rw [this]; rfl
theorem dec_encB (b : UInt8) (t : List UInt8) : decL (encB b ++ t) = b :: decL t := by
  by_cases h : b.toNat = 38 ∨ b.toNat = 60 ∨ b.toNat = 62 ∨ b.toNat = 34 ∨ b.toNat = 39 ∨ b.toNat = 13
  · rcases h with h | h | h | h | h | h <;> obtain rfl := byte_eq h (by decide)
    · exact ref_amp [97, 109, 112] 38 t (by decide) (by decide) (by decide +kernel)
    · exact ref_amp [108, 116] 60 t (by decide) (by decide) (by decide +kernel)
    · exact ref_amp [103, 116] 62 t (by decide) (by decide) (by decide +kernel)
    · exact ref_amp [113, 117, 111, 116] 34 t (by decide) (by decide) (by decide +kernel)
    · exact ref_amp [35, 51, 57] 39 t (by decide) (by decide) (by decide +kernel)
    · exact ref_amp [35, 49, 51] 13 t (by decide) (by decide) (by decide +kernel)
  · have hw : wrL b.toNat = [] := by
      unfold wrL
      rw [if_neg (by omega), if_neg (by omega), if_neg (by omega), if_neg (by omega), if_neg (by omega), if_neg (by omega)]
    unfold encB
    rw [if_pos hw]
    exact decL_plain b t (fun e => h (.inl (by rw [e]; rfl)))
theorem dec_enc : ∀ (l t : List UInt8), decL (encL l ++ t) = l ++ decL t
  | [], t => rfl
  | b :: l, t => by rw [encL_cons, List.append_assoc, dec_encB, dec_enc l t]; rfl
theorem dec_enc' (l : List UInt8) : decL (encL l) = l := by
  have := dec_enc l []
  rwa [List.append_nil, decL_nil, List.append_nil] at this

/-- No sign that could end a text. -/
def safeB (b : UInt8) : Bool := b.toNat != 60 && b.toNat != 62 && b.toNat != 34 && b.toNat != 39 && b.toNat != 13
theorem encB_safe : ∀ b : UInt8, (encB b).all safeB = true := all_bytes _ (by decide +kernel)
theorem encB_zero : ∀ b : UInt8, b ≠ 0 → (encB b).all (fun c => c != 0) = true := fun b => all_bytes (fun b => b ≠ 0 → (encB b).all (fun c => c != 0) = true) (by decide +kernel) b
theorem enc_safe (l : List UInt8) : ∀ b ∈ encL l, safeB b = true := by
  intro b hb
  obtain ⟨c, _, hc⟩ := List.mem_flatMap.1 hb
  exact List.all_eq_true.1 (encB_safe c) b hc
theorem enc_nonzero (l : List UInt8) (h : ∀ b ∈ l, b ≠ 0) : ∀ b ∈ encL l, b ≠ 0 := by
  intro b hb
  obtain ⟨c, h1, hc⟩ := List.mem_flatMap.1 hb
  simpa using List.all_eq_true.1 (encB_zero c (h c h1)) b hc

theorem sgn_kinds (n b0 b1 b2 b3 : Nat) (h : sgnN n b0 b1 b2 b3 ≠ 0) : (sgnN n b0 b1 b2 b3 = 1 ∧ b0 ≠ 0 ∧ b0 < 128) ∨ (sgnN n b0 b1 b2 b3 = 2 ∧ 2 ≤ n ∧ 128 ≤ b0 ∧ 128 ≤ b1) ∨
    (sgnN n b0 b1 b2 b3 = 3 ∧ 3 ≤ n ∧ 128 ≤ b0 ∧ 128 ≤ b1 ∧ 128 ≤ b2) ∨ (sgnN n b0 b1 b2 b3 = 4 ∧ 4 ≤ n ∧ 128 ≤ b0 ∧ 128 ≤ b1 ∧ 128 ≤ b2 ∧ 128 ≤ b3) := by
  revert h
  unfold sgnN
  repeat' split
  all_goals (intro h; omega)
/-- A sign's bytes: one below 128 and not 0, or all of 128 and more. -/
theorem sign_kinds (l : List UInt8) (h : signL l ≠ 0) : (∃ b, l.take (signL l) = [b] ∧ b ≠ 0 ∧ b.toNat < 128) ∨ (∀ b ∈ l.take (signL l), 128 ≤ b.toNat) := by
  have hs : l ≠ [] := by rintro rfl; exact h rfl
  have hk := h
  unfold signL at hk ⊢
  rw [if_neg hs] at hk ⊢
  rcases sgn_kinds _ _ _ _ _ hk with ⟨e, h1, h2⟩ | ⟨e, h1, h2, h3⟩ | ⟨e, h1, h2, h3, h4⟩ | ⟨e, h1, h2, h3, h4, h5⟩
  all_goals rw [e]
  · match l, hs with
    | b :: l, _ => exact .inl ⟨b, rfl, fun e => h1 (by rw [e]; rfl), h2⟩
  · match l, h1, h2, h3 with
    | a :: b :: l, _, h2, h3 =>
      refine .inr fun x hx => ?_
      have : x ∈ [a, b] := hx
      simp only [List.mem_cons, List.not_mem_nil, or_false] at this
      rcases this with rfl | rfl
      · exact h2
      · exact h3
  · match l, h1, h2, h3, h4 with
    | a :: b :: c :: l, _, h2, h3, h4 =>
      refine .inr fun x hx => ?_
      have : x ∈ [a, b, c] := hx
      simp only [List.mem_cons, List.not_mem_nil, or_false] at this
      rcases this with rfl | rfl | rfl
      · exact h2
      · exact h3
      · exact h4
  · match l, h1, h2, h3, h4, h5 with
    | a :: b :: c :: d :: l, _, h2, h3, h4, h5 =>
      refine .inr fun x hx => ?_
      have : x ∈ [a, b, c, d] := hx
      simp only [List.mem_cons, List.not_mem_nil, or_false] at this
      rcases this with rfl | rfl | rfl | rfl
      · exact h2
      · exact h3
      · exact h4
      · exact h5
theorem norm_nonzero (l : List UInt8) : ∀ b ∈ normL l, b ≠ 0 := by
  generalize hn : l.length = n
  induction n using Nat.strongRecOn generalizing l with
  | _ n ih =>
    cases l with
    | nil => intro b hb; cases hb
    | cons c l =>
      simp only [List.length_cons] at hn
      by_cases h : signL (c :: l) = 0
      · rw [norm_bad c l h]
        intro b hb
        rcases List.mem_append.1 hb with hb | hb
        · intro e; subst e; revert hb; decide
        · exact ih l.length (by omega) l rfl b hb
      · rw [norm_sign c l h]
        intro b hb
        rcases List.mem_append.1 hb with hb | hb
        · intro e
          subst e
          rcases sign_kinds _ h with ⟨x, h1, h2, _⟩ | h1
          · rw [h1] at hb
            exact h2 (List.mem_singleton.1 hb).symm
          · have := h1 0 hb
            exact absurd this (by decide)
        · exact ih _ (by rw [List.length_drop, List.length_cons]; omega) _ rfl b hb
theorem encB_high (b : UInt8) (h : 128 ≤ b.toNat) : encB b = [b] := by
  have hw : wrL b.toNat = [] := by
    unfold wrL
    rw [if_neg (by omega), if_neg (by omega), if_neg (by omega), if_neg (by omega), if_neg (by omega), if_neg (by omega)]
  unfold encB; rw [if_pos hw]
theorem encL_high : ∀ (l : List UInt8), (∀ b ∈ l, 128 ≤ b.toNat) → encL l = l
  | [], _ => rfl
  | b :: l, h => by rw [encL_cons, encB_high b (h b (List.mem_cons_self ..)), encL_high l (fun b hb => h b (List.mem_cons_of_mem _ hb))]; rfl
theorem encB_norm : ∀ b : UInt8, b ≠ 0 ∧ b.toNat < 128 → normL (encB b) = encB b := all_bytes _ (by decide +kernel)
theorem norm_split {a : List UInt8} (h : normL a = a) (t : List UInt8) : normL (a ++ t) = a ++ normL t := by
  have := norm_append a t
  rwa [h] at this
/-- What is encoded is normed. -/
theorem norm_enc (l : List UInt8) : normL (encL (normL l)) = encL (normL l) := by
  generalize hn : l.length = n
  induction n using Nat.strongRecOn generalizing l with
  | _ n ih =>
    cases l with
    | nil => rfl
    | cons c l =>
      simp only [List.length_cons] at hn
      by_cases h : signL (c :: l) = 0
      · rw [norm_bad c l h, encL_append, show encL bad = bad from by decide +kernel, norm_split (by decide +kernel), ih l.length (by omega) l rfl]
      · rw [norm_sign c l h, encL_append]
        have hi := ih ((c :: l).drop (signL (c :: l))).length (by rw [List.length_drop, List.length_cons]; omega) _ rfl
        rcases sign_kinds _ h with ⟨x, h1, h2, h3⟩ | h1
        · rw [h1]
          have : encL [x] = encB x := by rw [encL_cons, encL_nil, List.append_nil]
          rw [this, norm_split (encB_norm x ⟨h2, h3⟩), hi]
        · rw [encL_high _ h1, norm_take _ _ h, hi]
end Go.Proofs.YtfabijpafbhdbaaDoor.Refs
