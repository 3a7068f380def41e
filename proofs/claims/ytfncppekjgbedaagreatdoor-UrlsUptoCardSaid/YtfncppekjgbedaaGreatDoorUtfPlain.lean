/- Texts, plainly: how long a text's first sign is, and its norm: lists of bytes alone, no program. -/
import Derived.Lib.DecodeN
import Derived.Lib.Strings
import Derived.Shelf.Unicode.DecodeSlow
namespace Go.Proofs.YtfncppekjgbedaaGreatDoor.Utf
open Go.Lib

/-- How long the first sign is, off n (how many bytes are left) and four bytes; 0: there is none (a byte 0 is none). -/
def sgnN (n b0 b1 b2 b3 : Nat) : Nat :=
  if b0 = 0 then 0 else if b0 < 128 then 1
  else if 194 ≤ b0 ∧ b0 ≤ 223 then (if 2 ≤ n ∧ 128 ≤ b1 ∧ b1 ≤ 191 then 2 else 0)
  else if 224 ≤ b0 ∧ b0 ≤ 239 then (if 3 ≤ n ∧ 128 ≤ b1 ∧ b1 ≤ 191 ∧ 128 ≤ b2 ∧ b2 ≤ 191 ∧ ¬ (b0 = 224 ∧ b1 < 160) ∧ ¬ (b0 = 237 ∧ b1 > 159) then 3 else 0)
  else if 240 ≤ b0 ∧ b0 ≤ 244 then (if 4 ≤ n ∧ 128 ≤ b1 ∧ b1 ≤ 191 ∧ 128 ≤ b2 ∧ b2 ≤ 191 ∧ 128 ≤ b3 ∧ b3 ≤ 191 ∧ ¬ (b0 = 240 ∧ b1 < 144) ∧ ¬ (b0 = 244 ∧ b1 > 143) then 4 else 0)
  else 0
def decSign (d : Nat × Nat) : Nat := if d.1 = 0 ∨ (d.1 = 65533 ∧ d.2 = 1) then 0 else d.2
set_option maxRecDepth 100000 in
set_option maxHeartbeats 4000000 in
theorem dec_sgn (n b0 b1 b2 b3 : Nat) (h0 : b0 < 256) (h1 : b1 < 256) (h2 : b2 < 256) (h3 : b3 < 256) : decSign (decodeN n b0 b1 b2 b3) = sgnN n b0 b1 b2 b3 := by
  unfold decSign decodeN sgnN
  repeat' split
  all_goals first | rfl | omega | (simp_all; omega)
def bAt (l : List UInt8) (i : Nat) : Nat := (l.getD i 0).toNat
def signL (l : List UInt8) : Nat := if l = [] then 0 else sgnN l.length (bAt l 0) (bAt l 1) (bAt l 2) (bAt l 3)
theorem sgn_le (n b0 b1 b2 b3 : Nat) (hn : 1 ≤ n) : sgnN n b0 b1 b2 b3 ≤ n ∧ sgnN n b0 b1 b2 b3 ≤ 4 := by
  unfold sgnN
  repeat' split
  all_goals omega
theorem sign_le (l : List UInt8) : signL l ≤ l.length := by
  unfold signL
  cases l with
  | nil => simp
  | cons b l => rw [if_neg (by simp)]; exact (sgn_le _ _ _ _ _ (by simp)).1
def bad : List UInt8 := [239, 191, 189]
def normF : Nat → List UInt8 → List UInt8
  | 0, _ => []
  | _ + 1, [] => []
  | n + 1, b :: l => if signL (b :: l) = 0 then bad ++ normF n l else (b :: l).take (signL (b :: l)) ++ normF n ((b :: l).drop (signL (b :: l)))
def normL (l : List UInt8) : List UInt8 := normF l.length l
theorem normF_eq : ∀ (n m : Nat) (l : List UInt8), l.length ≤ n → l.length ≤ m → normF n l = normF m l := by
  intro n
  induction n with
  | zero =>
    intro m l h _
    obtain rfl : l = [] := List.eq_nil_of_length_eq_zero (by omega)
    cases m <;> rfl
  | succ n ih =>
    intro m l h hm
    cases l with
    | nil => cases m <;> rfl
    | cons b l =>
      simp only [List.length_cons] at h hm
      obtain ⟨m, rfl⟩ : ∃ k, m = k + 1 := ⟨m - 1, by omega⟩
      simp only [normF]
      split
      · rw [ih m l (by omega) (by omega)]
      · rw [ih m _ (by rw [List.length_drop, List.length_cons]; omega) (by rw [List.length_drop, List.length_cons]; omega)]
theorem norm_nil : normL [] = [] := rfl
theorem norm_bad (b : UInt8) (l : List UInt8) (h : signL (b :: l) = 0) : normL (b :: l) = bad ++ normL l := by
  unfold normL
  rw [List.length_cons, normF, if_pos h]
theorem norm_sign (b : UInt8) (l : List UInt8) (h : signL (b :: l) ≠ 0) : normL (b :: l) = (b :: l).take (signL (b :: l)) ++ normL ((b :: l).drop (signL (b :: l))) := by
  unfold normL
  rw [List.length_cons, normF, if_neg h]
  congr 1
  refine normF_eq _ _ _ ?_ (Nat.le_refl _)
  rw [List.length_drop, List.length_cons]; omega
theorem norm_len (l : List UInt8) : (normL l).length ≤ 3 * l.length := by
  generalize hn : l.length = n
  induction n using Nat.strongRecOn generalizing l with
  | _ n ih =>
    cases l with
    | nil => simp [norm_nil]
    | cons b l =>
      simp only [List.length_cons] at hn
      by_cases h : signL (b :: l) = 0
      · rw [norm_bad b l h, List.length_append]
        have := ih l.length (by omega) l rfl
        simp only [bad, List.length_cons, List.length_nil]; omega
      · rw [norm_sign b l h, List.length_append, List.length_take]
        have := ih ((b :: l).drop (signL (b :: l))).length (by rw [List.length_drop, List.length_cons]; omega) _ rfl
        rw [List.length_drop, List.length_cons] at this
        have := sign_le (b :: l)
        simp only [List.length_cons] at *
        omega
/-- Go's decoder tells it. -/
theorem sign_decode (s : ByteArray) : decSign (decodeGo s) = signL s.data.toList := by
  have hl : s.data.toList.length = s.size := by rw [Array.length_toList]; rfl
  unfold decodeGo signL
  by_cases h : s.size = 0
  · rw [if_pos h, if_pos (List.eq_nil_of_length_eq_zero (by omega))]; rfl
  · have hne : ¬ s.data.toList = [] := fun e => h (by rw [← hl, e]; rfl)
    rw [if_neg h, if_neg hne, decode_at, dec_sgn _ _ _ _ _ (UInt8.toNat_lt _) (UInt8.toNat_lt _) (UInt8.toNat_lt _) (UInt8.toNat_lt _)]
    have hb : ∀ i, (s.get! i).toNat = bAt s.data.toList i := by
      intro i
      unfold bAt ByteArray.get!
      rw [List.getD_eq_getElem?_getD, Array.getElem?_toList]
      rcases s with ⟨d⟩
      simp only [getElem!_def]
      cases d[i]? <;> rfl
    simp only [Nat.sub_zero, hb, hl, Nat.zero_add]
end Go.Proofs.YtfncppekjgbedaaGreatDoor.Utf
