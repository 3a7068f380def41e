/- refs: plain functions of the same answers. -/
import Derived.Test.YtfabijpafbhdbaaDoorUtfPlain
import Derived.Lib.Small
import Derived.Lib.Bytealg
namespace Go.Proofs.YtfabijpafbhdbaaDoor.Refs
open Go.Lib

/-- utf.LowerByte. -/
def lowN (c : Nat) : Nat := if 65 ≤ c ∧ c ≤ 90 then c + 32 else c
/-- refs.written. -/
def wrL (c : Nat) : List UInt8 :=
  if c = 38 then [38, 97, 109, 112, 59] else if c = 60 then [38, 108, 116, 59] else if c = 62 then [38, 103, 116, 59] else if c = 34 then [38, 113, 117, 111, 116, 59]
  else if c = 39 then [38, 35, 51, 57, 59] else if c = 13 then [38, 35, 49, 51, 59] else []
/-- What refs.Encode writes for a byte. -/
def encB (b : UInt8) : List UInt8 := if wrL b.toNat = [] then [b] else wrL b.toNat
def encL (l : List UInt8) : List UInt8 := l.flatMap encB
/-- refs.digit. -/
def digN (c base : Nat) : Nat := let d := lowN c; if 48 ≤ d ∧ d ≤ 57 then d - 48 else if 97 ≤ d ∧ d ≤ 102 then d - 97 + 10 else base
def numGo : List UInt8 → Nat → Nat → Option Nat
  | [], _, x => some x
  | c :: l, base, x => if base ≤ digN c.toNat base then none else numGo l base (x * base + digN c.toNat base)
def runeOf (x : Nat) : Nat := if x = 0 ∨ 1114111 < x ∨ Lib.validRune x = false then 65533 else x
/-- refs.numbered. -/
def numL (l : List UInt8) (base most : Nat) : Option (List UInt8) :=
  if l = [] ∨ most < l.length then none else (numGo l base 0).map fun x => (Utf8.encode (runeOf x : Nat)).data.toList
/-- refs.named. -/
def nameL (l : List UInt8) : Option (List UInt8) :=
  if l = [97, 109, 112] then some [38] else if l = [108, 116] then some [60] else if l = [103, 116] then some [62] else if l = [113, 117, 111, 116] then some [34]
  else if l = [97, 112, 111, 115] then some [39] else if l = [110, 98, 115, 112] then some [194, 160] else if l = [99, 111, 112, 121] then some [194, 169] else none
/-- refs.meant. -/
def meantL (l : List UInt8) : Option (List UInt8) :=
  if hasPrefix l [35, 120] = true ∨ hasPrefix l [35, 88] = true then numL (l.drop 2) 16 6
  else if hasPrefix l [35] = true then numL (l.drop 1) 10 7 else nameL l
/-- The reference at a text's head: what it stands for, how long it is. -/
def refAt (l : List UInt8) : Option (List UInt8 × Nat) :=
  if 0 < indexByte (l.take 11) 59 then (meantL ((l.take (indexByte (l.take 11) 59).toNat).drop 1)).map fun x => (x, (indexByte (l.take 11) 59).toNat + 1) else none
/-- refs.Decode. -/
def decF : Nat → List UInt8 → List UInt8
  | 0, _ => []
  | _ + 1, [] => []
  | n + 1, c :: l => if c = 38 then match refAt (c :: l) with
      | some (x, k) => x ++ decF n (l.drop (k - 1))
      | none => c :: decF n l
    else c :: decF n l
def decL (l : List UInt8) : List UInt8 := decF l.length l
theorem decF_eq : ∀ (n m : Nat) (l : List UInt8), l.length ≤ n → l.length ≤ m → decF n l = decF m l
  | 0, m, l, h, _ => by
    obtain rfl : l = [] := List.eq_nil_of_length_eq_zero (by omega)
    cases m <;> rfl
  | n + 1, 0, l, _, h => by
    obtain rfl : l = [] := List.eq_nil_of_length_eq_zero (by omega)
    rfl
  | n + 1, m + 1, [], _, _ => rfl
  | n + 1, m + 1, c :: l, h1, h2 => by
    simp only [List.length_cons] at h1 h2
    have hl := decF_eq n m l (by omega) (by omega)
    unfold decF
    split
    · cases refAt (c :: l) with
      | none => simp only [hl]
      | some p => simp only [decF_eq n m (l.drop (p.2 - 1)) (by rw [List.length_drop]; omega) (by rw [List.length_drop]; omega)]
    · rw [hl]
theorem decL_nil : decL [] = [] := rfl
theorem decL_plain (c : UInt8) (l : List UInt8) (h : c ≠ 38) : decL (c :: l) = c :: decL l := by
  show decF (l.length + 1) (c :: l) = _
  unfold decF
  rw [if_neg h]; rfl
theorem decL_none (c : UInt8) (l : List UInt8) (h : refAt (c :: l) = none) : decL (c :: l) = c :: decL l := by
  show decF (l.length + 1) (c :: l) = _
  unfold decF
  split
  · rw [h]; rfl
  · rfl
theorem decL_some (l : List UInt8) (x : List UInt8) (k : Nat) (h : refAt (38 :: l) = some (x, k + 1)) : decL (38 :: l) = x ++ decL (l.drop k) := by
  show decF (l.length + 1) (38 :: l) = _
  unfold decF
  rw [if_pos rfl, h]
  show x ++ decF l.length (l.drop k) = x ++ decF (l.drop k).length (l.drop k)
  rw [decF_eq _ _ (l.drop k) (by rw [List.length_drop]; omega) (Nat.le_refl _)]

theorem encode_len (r : Int) : (Utf8.encode r).size ≤ 4 := by
  unfold Utf8.encode; dsimp only; repeat' split
  all_goals first | (show 1 ≤ 4; omega) | (show 2 ≤ 4; omega) | (show 3 ≤ 4; omega) | (show 4 ≤ 4; omega)
theorem numL_len {l : List UInt8} {b m : Nat} {x : List UInt8} (h : numL l b m = some x) : x.length ≤ 4 ∧ l ≠ [] := by
  unfold numL at h
  split at h
  · cases h
  · rename_i hc
    obtain ⟨y, _, hy⟩ := Option.map_eq_some_iff.1 h
    refine ⟨?_, fun e => hc (.inl e)⟩
    rw [← hy]
    have := encode_len (runeOf y : Nat)
    rwa [Lib.size_eq] at this
theorem nameL_len {l x : List UInt8} (h : nameL l = some x) : x.length ≤ l.length := by
  unfold nameL at h
  repeat' split at h
  all_goals first | (cases h; done) | (injection h with h; subst h; subst l; decide)
theorem meantL_len {l x : List UInt8} (h : meantL l = some x) : x.length ≤ l.length + 2 := by
  unfold meantL at h
  split at h
  · obtain ⟨h1, h2⟩ := numL_len h
    have : (l.drop 2).length ≠ 0 := fun e => h2 (List.eq_nil_of_length_eq_zero e)
    simp only [List.length_drop] at this
    omega
  · split at h
    · obtain ⟨h1, h2⟩ := numL_len h
      have : (l.drop 1).length ≠ 0 := fun e => h2 (List.eq_nil_of_length_eq_zero e)
      simp only [List.length_drop] at this
      omega
    · have := nameL_len h; omega
theorem indexByte_lt (l : List UInt8) (c : UInt8) : -1 ≤ indexByte l c ∧ indexByte l c < l.length := by
  induction l with
  | nil => simp [indexByte]
  | cons b l ih =>
    unfold indexByte
    split
    · simp
    · split
      · simp; omega
      · simp only [List.length_cons]; omega
theorem refAt_len {l x : List UInt8} {k : Nat} (h : refAt l = some (x, k)) : x.length ≤ k ∧ 0 < k ∧ k ≤ l.length := by
  unfold refAt at h
  split at h
  · obtain ⟨y, hy, hk⟩ := Option.map_eq_some_iff.1 h
    injection hk with h1 h2
    subst h1
    have a := meantL_len hy
    have b := indexByte_lt (l.take 11) 59
    simp only [List.length_drop, List.length_take] at a b
    omega
  · cases h
end Go.Proofs.YtfabijpafbhdbaaDoor.Refs
