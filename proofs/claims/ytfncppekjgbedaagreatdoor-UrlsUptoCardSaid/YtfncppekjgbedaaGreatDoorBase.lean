/- Plain lemmas on the printed functions' words (rounds, bytes): no program. -/
import Derived.Test.YtfncppekjgbedaaGreatDoorWMore
import Derived.Lib.Bytealg
import Derived.Laws.BitsLemmas
namespace Go.Proofs.YtfncppekjgbedaaGreatDoor.Base
open Go.RowKit Go.Proofs.YtfncppekjgbedaaGreatDoorW.PrintWords Go.Proofs.YtfncppekjgbedaaGreatDoorW.PrintLast Go.Proofs.YtfncppekjgbedaaGreatDoorW.PrintMore
section
variable {α β : Type} {r : α} {s : β}
theorem Ev.pos {c : Prop} [Decidable c] {a b : Nat → Option α} (h : c) (H : Ev a r) : Ev (fun k => if c then a k else b k) r := by
  simpa only [if_pos h] using H
theorem Ev.neg {c : Prop} [Decidable c] {a b : Nat → Option α} (h : ¬ c) (H : Ev b r) : Ev (fun k => if c then a k else b k) r := by
  simpa only [if_neg h] using H
theorem Ev.bindC {o : Option β} {f : Nat → β → Option α} (h : o = some s) (H : Ev (fun k => f k s) r) : Ev (fun k => o.bind (f k)) r := by
  subst h; exact H
theorem Ev.ofSome {o : Option α} (h : o = some r) : Ev (fun _ => o) r := ⟨0, fun _ _ => h⟩
theorem Ev.cast {g : Nat → Option α} {r' : α} (H : Ev g r) (h : r = r') : Ev g r' := h ▸ H
end
/-- A byte, as a number. -/
theorem bt_list (s : ByteArray) (i : Nat) (h : i < s.size) : bt s (i : Int) = (((s.data.toList.getD i 0).toNat : Nat) : Int) := by
  have hl : i < s.data.toList.length := by rw [data_length]; exact h
  simp only [bt, Int.toNat_natCast, h, dite_true, List.getD_eq_getElem?_getD, List.getElem?_eq_getElem hl, Option.getD_some, Array.getElem_toList]
  rfl
theorem bt_drop (s : ByteArray) (i : Nat) {b : UInt8} {l : List UInt8} (h : s.data.toList.drop i = b :: l) : bt s (i : Int) = ((b.toNat : Nat) : Int) := by
  have hi : i < s.data.toList.length := by
    rcases Nat.lt_or_ge i s.data.toList.length with h1 | h1
    · exact h1
    · rw [List.drop_eq_nil_of_le h1] at h; cases h
  rw [bt_list s i (by rw [← data_length]; exact hi)]
  rw [List.drop_eq_getElem_cons hi] at h
  injection h with h1 h2
  rw [List.getD_eq_getElem?_getD, List.getElem?_eq_getElem hi, Option.getD_some, h1]
theorem drop_lt (s : ByteArray) (i : Nat) {b : UInt8} {l : List UInt8} (h : s.data.toList.drop i = b :: l) : i < s.size := by
  rcases Nat.lt_or_ge i s.data.toList.length with h1 | h1
  · rwa [data_length] at h1
  · rw [List.drop_eq_nil_of_le h1] at h; cases h
theorem drop_next (s : ByteArray) (i : Nat) {b : UInt8} {l : List UInt8} (h : s.data.toList.drop i = b :: l) : s.data.toList.drop (i + 1) = l := by
  rw [← List.drop_drop, h]; rfl
theorem drop_end (s : ByteArray) (i : Nat) (hi : i ≤ s.size) (h : s.data.toList.drop i = []) : i = s.size := by
  have := congrArg List.length h
  rw [List.length_drop, data_length] at this
  simp at this; omega
theorem wrap_next {i n : Nat} (h : i < n) (hn : n ≤ 4611686018427387904) : wrap64 ((i : Int) + 1) = ((i + 1 : Nat) : Int) := by
  unfold wrap64; omega
theorem byte_lt (b : UInt8) : b.toNat < 256 := b.toNat_lt
theorem size_append (a b : ByteArray) : (a ++ b).size = a.size + b.size := ByteArray.size_append
theorem data_append (a b : ByteArray) : (a ++ b).data.toList = a.data.toList ++ b.data.toList := by
  rw [ByteArray.data_append, Array.toList_append]
theorem ext_list {a b : ByteArray} (h : a.data.toList = b.data.toList) : a = b := by
  rcases a with ⟨⟨a⟩⟩; rcases b with ⟨⟨b⟩⟩; simp only at h; rw [h]
theorem list_eq (a : ByteArray) : a.toList = a.data.toList := ByteArray.toList_eq a
theorem ite_both {α : Type} {c : Prop} [Decidable c] {a b r : α} (h1 : c → a = r) (h2 : ¬ c → b = r) : (if c then a else b) = r := by
  by_cases h : c
  · rw [if_pos h]; exact h1 h
  · rw [if_neg h]; exact h2 h
/-- 'x & (2^i - 1)' of an int, whatever its sign. -/
theorem and_mask (x : Int) (i : Nat) (hi : i ≤ 62) : Go.bits .and .i64 x (2 ^ i - 1) = x % 2 ^ i := by
  have hpos : 0 < 2 ^ i := Nat.two_pow_pos i
  have hlt : 2 ^ i ≤ 2 ^ 62 := Nat.pow_le_pow_right (by decide) hi
  have hc : ((2 : Int) ^ i - 1) = ((2 ^ i - 1 : Nat) : Int) := by
    rw [Int.natCast_sub hpos]; simp
  have hm : (2 ^ i - 1) % 2 ^ IntKind.i64.bits = 2 ^ i - 1 := Nat.mod_eq_of_lt (by show 2 ^ i - 1 < 2 ^ 64; omega)
  have hd : (2 : Int) ^ i ∣ 2 ^ 64 := ⟨2 ^ (64 - i), by rw [← Int.pow_add]; congr 1; omega⟩
  have hx0 : 0 ≤ x % 2 ^ 64 := Int.emod_nonneg _ (by decide)
  have e : ((BitVec.ofInt IntKind.i64.bits x).toNat : Int) = x % 2 ^ 64 := by
    rw [BitVec.toNat_ofInt, Int.toNat_of_nonneg (by exact hx0)]; rfl
  have e2 : (((BitVec.ofInt IntKind.i64.bits x).toNat % 2 ^ i : Nat) : Int) = x % 2 ^ i := by
    rw [Int.natCast_emod, e]
    have : ((2 ^ i : Nat) : Int) = (2 : Int) ^ i := by simp
    rw [this, Int.emod_emod_of_dvd _ hd]
  rw [hc]
  simp only [Go.bits, BitVec.toNat_and, BitVec.ofInt_natCast, BitVec.toNat_ofNat]
  rw [hm, Nat.and_two_pow_sub_one_eq_mod, IntKind.wrap_i64, e2]
  have h0 : 0 ≤ x % 2 ^ i := Int.emod_nonneg _ (by have : (0:Int) < 2 ^ i := by exact_mod_cast hpos
                                                   omega)
  have h1 : x % 2 ^ i < 2 ^ i := Int.emod_lt_of_pos _ (by exact_mod_cast hpos)
  have h2 : (2 : Int) ^ i ≤ 2 ^ 62 := by exact_mod_cast hlt
  omega
end Go.Proofs.YtfncppekjgbedaaGreatDoor.Base
