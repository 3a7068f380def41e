/- The document's references (stoleref1.Encode, Decode, Rune) are the plain ones. -/
import Derived.Test.YtfabijpafbhdbaaDoorXR5
import Derived.Test.YtfabijpafbhdbaaDoorPNorm
import Derived.Test.YtfabijpafbhdbaaDoorPRefMore
namespace Go.Proofs.YtfabijpafbhdbaaDoor.Pure
open Go.RowKit Go.Proofs.YtfabijpafbhdbaaDoor.XR Go.Proofs.YtfabijpafbhdbaaDoorW.PrintWords Go.Proofs.YtfabijpafbhdbaaDoorW.PrintLast Go.Proofs.YtfabijpafbhdbaaDoor.Base Go.Proofs.YtfabijpafbhdbaaDoor.Ext Go.Proofs.YtfabijpafbhdbaaDoor.Utf Go.Proofs.YtfabijpafbhdbaaDoor.Refs

theorem nums_len (l : List UInt8) : (nums l).length = l.length := by unfold nums; rw [List.length_map]
theorem nums_append (l m : List UInt8) : nums (l ++ m) = nums l ++ nums m := by unfold nums; rw [List.map_append]
theorem bytesOf_mk (l : List UInt8) : bytesOf ⟨l.toArray⟩ = nums l := rfl
theorem bytesOf_nums (x : ByteArray) : bytesOf x = nums x.data.toList := rfl

theorem refEnc_ev (t : ByteArray) (ht : t.size ≤ 10000000000000) : ∀ (d i : Nat) (acc : List UInt8), t.size - i = d → i ≤ t.size → acc.length + 6 * (t.size - i) ≤ 6 * t.size →
    Ev (fun k => stoleref1_Encode.l0 k t (nums acc) (i : Int)) ⟨(acc ++ encL (t.data.toList.drop i)).toArray⟩ := by
  intro d
  induction d with
  | zero =>
    intro i acc hd hi hlen
    refine Ev.step (f := fun k => _) (fun k => by rw [stoleref1_Encode.l0]) ?_
    refine Ev.neg (by omega) (Ev.cast (Ev.now _) ?_)
    have : t.data.toList.drop i = [] := List.drop_eq_nil_of_le (by rw [data_length]; omega)
    rw [this, encL_nil, List.append_nil]
    exact strOfNums_bytes acc
  | succ d ih =>
    intro i acc hd hi hlen
    have hil : i < t.data.toList.length := by rw [data_length]; omega
    obtain ⟨c, l, hcl⟩ : ∃ c l, t.data.toList.drop i = c :: l := ⟨_, _, List.drop_eq_getElem_cons hil⟩
    have hnx := drop_next t i hcl
    have hnl := nums_len acc
    refine Ev.step (f := fun k => _) (fun k => by rw [stoleref1_Encode.l0]) ?_
    rw [bt_drop t i hcl, wrap_one i (by omega)]
    have next : ∀ (e : List UInt8), encB c = e → e.length ≤ 6 → Ev (fun k => stoleref1_Encode.l0 k t (nums acc ++ nums e) ((i + 1 : Nat) : Int)) ⟨(acc ++ encL (t.data.toList.drop i)).toArray⟩ := by
      intro e he hel
      rw [← nums_append]
      refine Ev.cast (ih (i + 1) (acc ++ e) (by omega) (by omega) (by rw [List.length_append]; omega)) ?_
      rw [hnx, hcl, encL_cons, he, List.append_assoc]
    refine Ev.pos (by omega) (Ev.pos (by omega) ?_)
    by_cases h1 : c.toNat = 38
    · exact Ev.pos (by omega) (Ev.pos (by omega) (next [38, 97, 109, 112, 59] (by rw [byte_eq h1 (by decide)]; decide) (by decide)))
    refine Ev.neg (by omega) ?_
    by_cases h2 : c.toNat = 60
    · exact Ev.pos (by omega) (Ev.pos (by omega) (next [38, 108, 116, 59] (by rw [byte_eq h2 (by decide)]; decide) (by decide)))
    refine Ev.neg (by omega) ?_
    by_cases h3 : c.toNat = 62
    · exact Ev.pos (by omega) (Ev.pos (by omega) (next [38, 103, 116, 59] (by rw [byte_eq h3 (by decide)]; decide) (by decide)))
    refine Ev.neg (by omega) ?_
    by_cases h4 : c.toNat = 34
    · exact Ev.pos (by omega) (Ev.pos (by omega) (next [38, 113, 117, 111, 116, 59] (by rw [byte_eq h4 (by decide)]; decide) (by decide)))
    refine Ev.neg (by omega) ?_
    by_cases h5 : c.toNat = 39
    · exact Ev.pos (by omega) (Ev.pos (by omega) (next [38, 35, 51, 57, 59] (by rw [byte_eq h5 (by decide)]; decide) (by decide)))
    refine Ev.neg (by omega) ?_
    by_cases h6 : c.toNat = 13
    · exact Ev.pos (by omega) (Ev.pos (by omega) (next [38, 35, 49, 51, 59] (by rw [byte_eq h6 (by decide)]; decide) (by decide)))
    refine Ev.neg (by omega) (Ev.pos (by omega) (next [c] ?_ (by simp)))
    unfold encB wrL
    rw [if_neg h1, if_neg h2, if_neg h3, if_neg h4, if_neg h5, if_neg h6, if_pos rfl]

theorem normS_size (s : ByteArray) : (normS s).size = (normL s.data.toList).length := by rw [← data_length]; rfl
theorem normS_le (s : ByteArray) : (normS s).size ≤ 3 * s.size := by
  rw [normS_size]
  have := norm_len s.data.toList
  rwa [data_length] at this
theorem refEnc_ok (s : ByteArray) (hs : s.size ≤ 1000000000000) : Ev (fun k => stoleref1_Encode.f k s) (encS s) := by
  unfold stoleref1_Encode.f
  have h3 := normS_le s
  refine Ev.bind (refNorm_ok s (by omega)) ?_
  exact refEnc_ev (normS s) (by omega) _ 0 [] rfl (by omega) (by simp)

def hexv (n : Nat) : Int := if digN n 16 < 16 then (digN n 16 : Nat) else -1
theorem hex_b : ∀ n : Nat, n < 256 → stoleref1_hex.f (n : Int) = some (hexv n) := by decide +kernel
theorem hex16 : ∀ n : Nat, n < 256 → (16 ≤ digN n 16 ∧ hexv n = -1) ∨ (digN n 16 < 16 ∧ hexv n = (digN n 16 : Nat)) := by decide +kernel
theorem hex10 : ∀ n : Nat, n < 256 → (10 ≤ digN n 10 ∧ (hexv n = -1 ∨ 10 ≤ hexv n)) ∨ (digN n 10 < 10 ∧ hexv n = (digN n 10 : Nat)) := by decide +kernel
theorem hex_base (b : Nat) (hb : b = 10 ∨ b = 16) (n : Nat) (hn : n < 256) : (b ≤ digN n b ∧ (hexv n = -1 ∨ (b : Int) ≤ hexv n)) ∨ (digN n b < b ∧ hexv n = (digN n b : Nat)) := by
  rcases hb with rfl | rfl
  · exact hex10 n hn
  · rcases hex16 n hn with h | h
    · exact .inl ⟨h.1, .inl h.2⟩
    · exact .inr h
def pairO : Option Nat → Int × Bool
  | some y => ((y : Int), true)
  | none => (0, false)

theorem number_l0 (s : ByteArray) (b : Nat) (hb : b = 10 ∨ b = 16) (hs : s.size ≤ 7) : ∀ (d i x : Nat), s.size - i = d → i ≤ s.size → x < 16 ^ i →
    Ev (fun k => stoleref1_number.l0 k s (b : Int) (x : Int) (i : Int)) (pairO (numGo (s.data.toList.drop i) b x)) := by
  intro d
  induction d with
  | zero =>
    intro i x hd hi _
    refine Ev.step (f := fun k => _) (fun k => by rw [stoleref1_number.l0]) ?_
    refine Ev.neg (by omega) (Ev.cast (Ev.now _) ?_)
    have : s.data.toList.drop i = [] := List.drop_eq_nil_of_le (by rw [data_length]; omega)
    rw [this]; rfl
  | succ d ih =>
    intro i x hd hi hx
    have hil : i < s.data.toList.length := by rw [data_length]; omega
    obtain ⟨c, l, hcl⟩ : ∃ c l, s.data.toList.drop i = c :: l := ⟨_, _, List.drop_eq_getElem_cons hil⟩
    have hnx := drop_next s i hcl
    refine Ev.step (f := fun k => _) (fun k => by rw [stoleref1_number.l0]) ?_
    rw [bt_drop s i hcl, wrap_one i (by omega), hcl]
    refine Ev.pos (by omega) (Ev.pos (by omega) (Ev.bindC (hex_b _ c.toNat_lt) ?_))
    show Ev _ (pairO (if b ≤ digN c.toNat b then none else numGo l b (x * b + digN c.toNat b)))
    rcases hex_base b hb c.toNat c.toNat_lt with ⟨h1, h2⟩ | ⟨h1, h2⟩
    · rw [if_pos h1]
      rcases h2 with h2 | h2
      · exact Ev.pos (by omega) (Ev.now _)
      · by_cases h3 : hexv c.toNat < 0
        · exact Ev.pos h3 (Ev.now _)
        · exact Ev.neg h3 (Ev.pos (by omega) (Ev.now _))
    · rw [if_neg (by omega), h2]
      have hpow : 16 ^ i ≤ 16 ^ 6 := Nat.pow_le_pow_right (by decide) (by omega)
      have hx2 : x < 16777216 := Nat.lt_of_lt_of_le hx hpow
      have hb16 : b ≤ 16 := by omega
      have hxb : x * b ≤ 16777215 * 16 := Nat.mul_le_mul (by omega) hb16
      have hstep : x * b + digN c.toNat b < 16 ^ (i + 1) := by
        have h1 : x * b + b ≤ 16 ^ i * 16 := by
          have : (x + 1) * b ≤ 16 ^ i * 16 := Nat.mul_le_mul (by omega) hb16
          rwa [Nat.add_mul, Nat.one_mul] at this
        rw [Nat.pow_succ]; omega
      have hw : wrap64 (wrap64 ((x : Int) * (b : Int)) + ((digN c.toNat b : Nat) : Int)) = ((x * b + digN c.toNat b : Nat) : Int) := by
        rw [← Int.natCast_mul, show wrap64 ((x * b : Nat) : Int) = ((x * b : Nat) : Int) from by unfold wrap64; omega]
        unfold wrap64; omega
      rw [hw]
      have hrec := ih (i + 1) (x * b + digN c.toNat b) (by omega) (by omega) hstep
      rw [hnx] at hrec
      clear hw hstep hxb hpow hx hx2
      generalize x * b + digN c.toNat b = y at hrec ⊢
      exact Ev.neg (by omega) (Ev.neg (by omega) hrec)

def numN (l : List UInt8) (b m : Nat) : Option Nat := if l = [] ∨ m < l.length then none else numGo l b 0
theorem numL_N (l : List UInt8) (b m : Nat) : numL l b m = (numN l b m).map fun x => (Utf8.encode (runeOf x : Nat)).data.toList := by
  unfold numL numN; split <;> rfl
theorem list_nil {s : ByteArray} : s.toList = ([] : List UInt8) ↔ s.data.toList = [] := by rw [list_eq]
theorem number_j1 (s : ByteArray) (b m : Nat) (hb : b = 10 ∨ b = 16) (hm : m ≤ 7) :
    Ev (fun k => stoleref1_number.j1 k s (b : Int) (m : Int)) (pairO (numN s.data.toList b m)) := by
  refine Ev.step (f := fun k => _) (fun k => by rw [stoleref1_number.j1]) ?_
  unfold numN
  by_cases h : s.data.toList = []
  · refine Ev.pos (list_nil.2 h) (Ev.step (f := fun k => _) (fun k => by rw [stoleref1_number.j2]) (Ev.cast (Ev.pos rfl (Ev.now _)) ?_))
    rw [if_pos (.inl h)]; rfl
  · refine Ev.neg (fun e => h (list_nil.1 e)) (Ev.step (f := fun k => _) (fun k => by rw [stoleref1_number.j2]) ?_)
    by_cases h2 : m < s.size
    · refine Ev.cast (Ev.pos (decide_eq_true (by omega)) (Ev.now _)) ?_
      rw [if_pos (.inr (by rw [data_length]; exact h2))]; rfl
    · refine Ev.neg (by rw [decide_eq_true_iff]; omega) ?_
      rw [if_neg (by rw [data_length]; exact fun e => e.elim h h2)]
      exact number_l0 s b hb (by omega) s.size 0 0 rfl (by omega) (by simp)
/-- stoleref1.number. -/
def numberN : List UInt8 → Option Nat
  | [] => none
  | c :: l => if lowN c.toNat = 120 then numN l 16 6 else numN (c :: l) 10 7
theorem low_b : ∀ n : Nat, n < 256 → stoleref1_Low.f (n : Int) = some ((lowN n : Nat) : Int) := by decide +kernel
theorem tail_data (s : ByteArray) {c : UInt8} {l : List UInt8} (h : s.data.toList = c :: l) : (s.extract 1 s.size).data.toList = l := by
  rw [Lib.extract_to_end, h]; rfl
theorem number_ok (s : ByteArray) : Ev (fun k => stoleref1_number.f k s) (pairO (numberN s.data.toList)) := by
  unfold stoleref1_number.f
  cases hcl : s.data.toList with
  | nil =>
    refine Ev.pos (list_nil.2 hcl) (Ev.step (f := fun k => _) (fun k => by rw [stoleref1_number.j0]) (Ev.neg (by decide) ?_))
    refine Ev.cast (number_j1 s 10 7 (.inl rfl) (by omega)) ?_
    rw [hcl]; rfl
  | cons c l =>
    have hne : ¬ s.toList = [] := fun e => by rw [list_nil, hcl] at e; cases e
    have hsz : 0 < s.size := by rw [← data_length, hcl]; simp
    have h0 := bt_drop s 0 (show s.data.toList.drop 0 = c :: l from hcl)
    refine Ev.neg hne (Ev.pos (by omega) ?_)
    rw [show (0 : Int) = ((0 : Nat) : Int) from rfl, h0]
    refine Ev.bindC (low_b _ c.toNat_lt) (Ev.step (f := fun k => _) (fun k => by rw [stoleref1_number.j0]) ?_)
    show Ev _ (pairO (if lowN c.toNat = 120 then numN l 16 6 else numN (c :: l) 10 7))
    by_cases hx : lowN c.toNat = 120
    · rw [if_pos hx]
      refine Ev.pos (by rw [beq_iff_eq]; omega) (Ev.pos (by omega) ?_)
      have := number_j1 (s.extract 1 s.size) 16 6 (.inr rfl) (by omega)
      rwa [tail_data s hcl] at this
    · rw [if_neg hx]
      refine Ev.neg (by rw [beq_iff_eq]; omega) ?_
      have := number_j1 s 10 7 (.inl rfl) (by omega)
      rwa [hcl] at this

theorem or240 : ∀ n : Nat, n < 8 → Go.bits .or .i64 240 (n : Int) = ((240 + n : Nat) : Int) := by decide +kernel
theorem or224 : ∀ n : Nat, n < 16 → Go.bits .or .i64 224 (n : Int) = ((224 + n : Nat) : Int) := by decide +kernel
theorem or192 : ∀ n : Nat, n < 32 → Go.bits .or .i64 192 (n : Int) = ((192 + n : Nat) : Int) := by decide +kernel
theorem or128 : ∀ n : Nat, n < 64 → Go.bits .or .i64 128 (n : Int) = ((128 + n : Nat) : Int) := by decide +kernel
theorem and63 (n : Nat) : Go.bits .and .i64 (n : Int) 63 = ((n % 64 : Nat) : Int) := by
  rw [show (63 : Int) = 2 ^ 6 - 1 from rfl, and_mask _ 6 (by decide)]; omega
theorem ofNat_nat (n : Nat) (h : n < 256) : (UInt8.ofNat n).toNat = n := by rw [UInt8.toNat_ofNat', Nat.mod_eq_of_lt (by simpa using h)]
theorem valid_iff (x : Nat) : Lib.validRune (x : Int) = true ↔ ¬ (55296 ≤ x ∧ x ≤ 57343) ∧ x ≤ 1114111 := by
  unfold Lib.validRune; rw [decide_eq_true_iff]; omega
theorem utf8_valid (x : Nat) (h : ¬ (55296 ≤ x ∧ x ≤ 57343)) (h2 : x ≤ 1114111) : Utf8.valid (x : Int) = true := by
  unfold Utf8.valid
  simp only [Bool.or_eq_true, Bool.and_eq_true, decide_eq_true_eq]
  omega
theorem enc_valid (x : Nat) (h : ¬ (55296 ≤ x ∧ x ≤ 57343)) (h2 : x ≤ 1114111) : (Utf8.encode (x : Int)).data.toList =
    if x < 128 then [UInt8.ofNat x] else if x < 2048 then [UInt8.ofNat (192 + x / 64), UInt8.ofNat (128 + x % 64)]
    else if x < 65536 then [UInt8.ofNat (224 + x / 4096), UInt8.ofNat (128 + x / 64 % 64), UInt8.ofNat (128 + x % 64)]
    else [UInt8.ofNat (240 + x / 262144), UInt8.ofNat (128 + x / 4096 % 64), UInt8.ofNat (128 + x / 64 % 64), UInt8.ofNat (128 + x % 64)] := by
  unfold Utf8.encode
  simp only [utf8_valid x h h2, if_true, Int.toNat_natCast]
  split
  · rfl
  split
  · rfl
  split <;> rfl
theorem byte_nums1 (a : Nat) (h : a < 256) (l : List UInt8) : nums (UInt8.ofNat a :: l) = (a : Int) :: nums l := by
  show ((UInt8.ofNat a).toNat : Int) :: nums l = _
  rw [ofNat_nat a h]
theorem mod_small (a : Nat) (h : a < 256) : ((a : Int)) % 256 = (a : Int) := by omega
theorem bad_enc : (Utf8.encode ((65533 : Nat) : Int)).data.toList = [239, 191, 189] := by decide +kernel
theorem bad_rune (x : Nat) (hr : runeOf x = 65533) : ([239, 191, 189] : List Int) = nums (Utf8.encode ((runeOf x : Nat) : Int)).data.toList := by
  rw [hr, bad_enc]; rfl
theorem rune_j0 (x : Nat) (b : Bool) (hb : b = true ∧ runeOf x = 65533 ∨ b = false ∧ x ≠ 0 ∧ ¬ (55296 ≤ x ∧ x ≤ 57343) ∧ x ≤ 1114111) : Ev (fun k => stoleref1_Rune.j0 k (x : Int) b) (nums (Utf8.encode ((runeOf x : Nat) : Int)).data.toList) := by
  refine Ev.step (f := fun k => _) (fun k => by rw [stoleref1_Rune.j0]) ?_
  rcases hb with ⟨rfl, hr⟩ | ⟨rfl, h0, h1, h2⟩
  · exact Ev.pos rfl (Ev.cast (Ev.now _) (bad_rune x hr))
  · refine Ev.neg (by decide) ?_
    have hr : runeOf x = x := by
      unfold runeOf
      have hv := (valid_iff x).2 ⟨h1, h2⟩
      rw [if_neg (by rw [hv]; simp; omega)]
    rw [hr, enc_valid x h1 h2]
    have d6 : (x : Int) / 64 = ((x / 64 : Nat) : Int) := by omega
    have d12 : (x : Int) / 4096 = ((x / 4096 : Nat) : Int) := by omega
    have d18 : (x : Int) / 262144 = ((x / 262144 : Nat) : Int) := by omega
    by_cases c1 : x < 128
    · refine Ev.pos (by omega) (Ev.cast (Ev.now _) ?_)
      rw [if_pos c1, byte_nums1 _ (by omega), mod_small _ (by omega)]; rfl
    refine Ev.neg (by omega) ?_
    rw [if_neg c1]
    by_cases c2 : x < 2048
    · refine Ev.pos (by omega) (Ev.cast (Ev.now _) ?_)
      rw [if_pos c2, byte_nums1 _ (by omega), byte_nums1 _ (by omega), and63, or128 _ (by omega), d6, or192 _ (by omega), mod_small _ (by omega), mod_small _ (by omega)]; rfl
    refine Ev.neg (by omega) ?_
    rw [if_neg c2]
    by_cases c3 : x < 65536
    · refine Ev.pos (by omega) (Ev.cast (Ev.now _) ?_)
      rw [if_pos c3, byte_nums1 _ (by omega), byte_nums1 _ (by omega), byte_nums1 _ (by omega), and63, or128 _ (by omega), d6, and63, or128 _ (by omega), d12, or224 _ (by omega), mod_small _ (by omega), mod_small _ (by omega), mod_small _ (by omega)]; rfl
    · refine Ev.neg (by omega) (Ev.cast (Ev.now _) ?_)
      rw [if_neg c3, byte_nums1 _ (by omega), byte_nums1 _ (by omega), byte_nums1 _ (by omega), byte_nums1 _ (by omega), and63, or128 _ (by omega), d6, and63, or128 _ (by omega), d12, and63, or128 _ (by omega), d18, or240 _ (by omega), mod_small _ (by omega), mod_small _ (by omega), mod_small _ (by omega), mod_small _ (by omega)]; rfl
theorem runeOf_bad (x : Nat) (h : x = 0 ∨ (55296 ≤ x ∧ x ≤ 57343) ∨ 1114111 < x) : runeOf x = 65533 := by
  unfold runeOf
  rw [if_pos]
  rcases h with h | h | h
  · exact .inl h
  · refine .inr (.inr ?_)
    rw [← Bool.not_eq_true, valid_iff]; omega
  · exact .inr (.inl h)
theorem rune_ok (x : Nat) : Ev (fun k => stoleref1_Rune.f k (x : Int)) (nums (Utf8.encode ((runeOf x : Nat) : Int)).data.toList) := by
  unfold stoleref1_Rune.f
  by_cases h0 : x = 0
  · exact Ev.pos (by omega) (rune_j0 x true (.inl ⟨rfl, runeOf_bad x (.inl h0)⟩))
  refine Ev.neg (by omega) ?_
  have big : ¬ (55296 ≤ x ∧ x ≤ 57343) → Ev (fun k => stoleref1_Rune.j0 k (x : Int) (decide ((x : Int) > 1114111))) (nums (Utf8.encode ((runeOf x : Nat) : Int)).data.toList) := by
    intro h
    by_cases h2 : 1114111 < x
    · rw [decide_eq_true (by omega)]
      exact rune_j0 x true (.inl ⟨rfl, runeOf_bad x (.inr (.inr h2))⟩)
    · rw [decide_eq_false (by omega)]
      exact rune_j0 x false (.inr ⟨rfl, h0, h, by omega⟩)
  by_cases h1 : 55296 ≤ x
  · refine Ev.pos (by omega) ?_
    by_cases h2 : x ≤ 57343
    · exact Ev.pos (by omega) (rune_j0 x true (.inl ⟨rfl, runeOf_bad x (.inr (.inl ⟨h1, h2⟩))⟩))
    · exact Ev.neg (by omega) (big (by omega))
  · exact Ev.neg (by omega) (big (by omega))
end Go.Proofs.YtfabijpafbhdbaaDoor.Pure
