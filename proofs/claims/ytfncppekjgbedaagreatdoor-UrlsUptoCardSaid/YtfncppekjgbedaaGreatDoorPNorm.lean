/- The document's texts (stoleref1.Size, Norm) are the plain ones. -/
import Derived.Test.YtfncppekjgbedaaGreatDoorXU4
import Derived.Test.YtfncppekjgbedaaGreatDoorBase
namespace Go.Proofs.YtfncppekjgbedaaGreatDoor.Pure
open Go.RowKit Go.Proofs.YtfncppekjgbedaaGreatDoor.XU Go.Proofs.YtfncppekjgbedaaGreatDoorW.PrintWords Go.Proofs.YtfncppekjgbedaaGreatDoorW.PrintLast Go.Proofs.YtfncppekjgbedaaGreatDoor.Base Go.Proofs.YtfncppekjgbedaaGreatDoor.Ext Go.Proofs.YtfncppekjgbedaaGreatDoor.Utf

/-- Byte i, 0 behind the end. -/
def B (s : ByteArray) (i : Nat) : Nat := bAt s.data.toList i
theorem B_lt (s : ByteArray) (i : Nat) : B s i < 256 := UInt8.toNat_lt _
theorem bt_B (s : ByteArray) (i : Nat) : bt s (i : Int) = (B s i : Nat) := by
  by_cases h : i < s.size
  · rw [bt_list s i h]; rfl
  · have : s.data.toList.length ≤ i := by rw [data_length]; omega
    unfold bt B bAt
    rw [List.getD_eq_getElem?_getD, List.getElem?_eq_none this]
    simp [h]
theorem B_drop (s : ByteArray) (i j : Nat) : bAt (s.data.toList.drop i) j = B s (i + j) := by
  unfold B bAt
  rw [List.getD_eq_getElem?_getD, List.getD_eq_getElem?_getD, List.getElem?_drop]
def contN (s : ByteArray) (i : Nat) : Nat → Nat → Bool
  | 0, _ => true
  | d + 1, j => (decide (128 ≤ B s (i + j)) && decide (B s (i + j) ≤ 191)) && contN s i d (j + 1)
def badD (c d : Nat) : Bool := decide ((c = 224 ∧ d < 160) ∨ (c = 237 ∧ d > 159) ∨ (c = 240 ∧ d < 144) ∨ (c = 244 ∧ d > 143))
theorem badD_iff {c d : Nat} : badD c d = true ↔ ((c = 224 ∧ d < 160) ∨ (c = 237 ∧ d > 159) ∨ (c = 240 ∧ d < 144) ∨ (c = 244 ∧ d > 143)) := decide_eq_true_iff
theorem wrap_add (i j : Nat) (h : i + j ≤ 4611686018427387904) : wrap64 ((i : Int) + (j : Int)) = ((i + j : Nat) : Int) := by unfold wrap64; omega
theorem wrap_one (i : Nat) (h : i ≤ 4611686018427387904) : wrap64 ((i : Int) + 1) = ((i + 1 : Nat) : Int) := by unfold wrap64; omega

set_option maxHeartbeats 1000000 in
theorem size_l0 (s : ByteArray) (i k c : Nat) (hs : s.size ≤ 1000000000000000) (hi : i + k ≤ s.size) (hk : 2 ≤ k) : ∀ (d j : Nat), j + d = k →
    Ev (fun f => stoleref1_Size.l0 f s (i : Int) (c : Int) (k : Int) (j : Int)) (if (contN s i d j && !badD c (B s (i + 1))) = true then (k : Int) else 0) := by
  intro d
  induction d with
  | zero =>
    intro j hj
    refine Ev.step (f := fun k => _) (fun k => by rw [stoleref1_Size.l0]) ?_
    refine Ev.neg (by omega) ?_
    rw [wrap_one i (by omega), bt_B]
    refine Ev.pos (by omega) (Ev.pos (by omega) ?_)
    have h1 : (contN s i 0 j && !badD c (B s (i + 1))) = !badD c (B s (i + 1)) := by rw [contN, Bool.true_and]
    rw [h1]
    refine Ev.ofSome ?_
    have hT : badD c (B s (i + 1)) = true → (some (0 : Int)) = some (if (!badD c (B s (i + 1))) = true then (k : Int) else 0) := fun h => by rw [h]; rfl
    have hF : ¬ badD c (B s (i + 1)) = true → (some (k : Int)) = some (if (!badD c (B s (i + 1))) = true then (k : Int) else 0) := fun h => by rw [Bool.not_eq_true] at h; rw [h]; rfl
    rw [badD_iff] at hT hF
    repeat' refine ite_both (fun _ => ?_) (fun _ => ?_)
    all_goals first
      | exact hT (by omega)
      | exact hF (by omega)
  | succ d ih =>
    intro j hj
    refine Ev.step (f := fun k => _) (fun k => by rw [stoleref1_Size.l0]) ?_
    rw [wrap_add i j (by omega), bt_B, wrap_one j (by omega)]
    refine Ev.pos (by omega) (Ev.pos (by omega) (Ev.pos (by omega) ?_))
    by_cases h1 : B s (i + j) < 128
    · refine Ev.pos (by omega) (Ev.cast (Ev.now 0) ?_)
      rw [contN, show decide (128 ≤ B s (i + j)) = false from decide_eq_false (by omega)]; rfl
    refine Ev.neg (by omega) ?_
    by_cases h2 : B s (i + j) > 191
    · refine Ev.pos (by omega) (Ev.cast (Ev.now 0) ?_)
      rw [contN, show decide (B s (i + j) ≤ 191) = false from decide_eq_false (by omega), Bool.and_false]; rfl
    refine Ev.neg (by omega) (Ev.cast (ih (j + 1) (by omega)) ?_)
    rw [contN, show decide (128 ≤ B s (i + j)) = true from decide_eq_true (by omega), show decide (B s (i + j) ≤ 191) = true from decide_eq_true (by omega), Bool.true_and, Bool.true_and]

def lenOf (c : Nat) : Nat := if 194 ≤ c ∧ c ≤ 223 then 2 else if 224 ≤ c ∧ c ≤ 239 then 3 else if 240 ≤ c ∧ c ≤ 244 then 4 else 0
def szB (s : ByteArray) (i : Nat) : Nat :=
  if B s i < 128 then 1 else if lenOf (B s i) = 0 ∨ s.size < i + lenOf (B s i) then 0 else if (contN s i (lenOf (B s i) - 1) 1 && !badD (B s i) (B s (i + 1))) = true then lenOf (B s i) else 0

theorem size_j2 (s : ByteArray) (i c k : Nat) (hs : s.size ≤ 1000000000000000) (hi : i < s.size) (hk : k = 0 ∨ 2 ≤ k) (hk4 : k ≤ 4) :
    Ev (fun f => stoleref1_Size.j2 f s (i : Int) (c : Int) (k : Int)) (if k = 0 ∨ s.size < i + k then (0 : Int) else if (contN s i (k - 1) 1 && !badD c (B s (i + 1))) = true then (k : Int) else 0) := by
  refine Ev.step (f := fun k => _) (fun k => by rw [stoleref1_Size.j2]) ?_
  by_cases h0 : k = 0
  · refine Ev.pos (by omega) ?_
    refine Ev.step (f := fun k => _) (fun k => by rw [stoleref1_Size.j3]) ?_
    exact Ev.cast (Ev.pos rfl (Ev.now 0)) (by rw [if_pos (.inl h0)])
  refine Ev.neg (by omega) ?_
  refine Ev.step (f := fun k => _) (fun k => by rw [stoleref1_Size.j3]) ?_
  rw [wrap_add i k (by omega)]
  by_cases h1 : s.size < i + k
  · exact Ev.cast (Ev.pos (decide_eq_true (by omega)) (Ev.now 0)) (by rw [if_pos (.inr h1)])
  · refine Ev.neg (by rw [decide_eq_true_iff]; omega) ?_
    rw [if_neg (by omega)]
    exact size_l0 s i k c hs (by omega) (by omega) (k - 1) 1 (by omega)

theorem size_ev (s : ByteArray) (i : Nat) (hs : s.size ≤ 1000000000000000) (hi : i < s.size) : Ev (fun f => stoleref1_Size.f f s (i : Int)) ((szB s i : Nat) : Int) := by
  unfold stoleref1_Size.f
  rw [bt_B]
  refine Ev.pos (by omega) (Ev.pos (by omega) ?_)
  unfold szB
  generalize hc : B s i = c
  by_cases h1 : c < 128
  · exact Ev.cast (Ev.pos (by omega) (Ev.now 1)) (by rw [if_pos h1]; rfl)
  refine Ev.neg (by omega) ?_
  rw [if_neg h1]
  have key : ∀ k, lenOf c = k → (k = 0 ∨ 2 ≤ k) → k ≤ 4 → Ev (fun f => stoleref1_Size.j2 f s (i : Int) (c : Int) (k : Int)) (((if lenOf c = 0 ∨ s.size < i + lenOf c then 0 else if (contN s i (lenOf c - 1) 1 && !badD c (B s (i + 1))) = true then lenOf c else 0 : Nat)) : Int) := by
    intro k hk h2 h3
    rw [hk]
    refine Ev.cast (size_j2 s i c k hs hi h2 h3) ?_
    split
    · rfl
    · split <;> rfl
  have hJ1 : ∀ b : Bool, (b = true ↔ (224 ≤ c ∧ c ≤ 239)) → ¬ (194 ≤ c ∧ c ≤ 223) → Ev (fun f => stoleref1_Size.j1 f s (i : Int) (c : Int) 0 b) (((if lenOf c = 0 ∨ s.size < i + lenOf c then 0 else if (contN s i (lenOf c - 1) 1 && !badD c (B s (i + 1))) = true then lenOf c else 0 : Nat)) : Int) := by
    intro b hb hn
    refine Ev.step (f := fun k => _) (fun k => by rw [stoleref1_Size.j1]) ?_
    by_cases h : 224 ≤ c ∧ c ≤ 239
    · exact Ev.pos (hb.2 h) (key 3 (by unfold lenOf; rw [if_neg hn, if_pos h]) (by omega) (by omega))
    refine Ev.neg (fun e => h (hb.1 e)) ?_
    by_cases h4 : 240 ≤ c ∧ c ≤ 244
    · exact Ev.pos (by omega) (Ev.pos (by omega) (key 4 (by unfold lenOf; rw [if_neg hn, if_neg h, if_pos h4]) (by omega) (by omega)))
    · have k0 := key 0 (by unfold lenOf; rw [if_neg hn, if_neg h, if_neg h4]) (by omega) (by omega)
      by_cases h5 : 240 ≤ c
      · exact Ev.pos (by omega) (Ev.neg (by omega) k0)
      · exact Ev.neg (by omega) k0
  have hJ0 : ∀ b : Bool, (b = true ↔ (194 ≤ c ∧ c ≤ 223)) → Ev (fun f => stoleref1_Size.j0 f s (i : Int) (c : Int) 0 b) (((if lenOf c = 0 ∨ s.size < i + lenOf c then 0 else if (contN s i (lenOf c - 1) 1 && !badD c (B s (i + 1))) = true then lenOf c else 0 : Nat)) : Int) := by
    intro b hb
    refine Ev.step (f := fun k => _) (fun k => by rw [stoleref1_Size.j0]) ?_
    by_cases h : 194 ≤ c ∧ c ≤ 223
    · exact Ev.pos (hb.2 h) (key 2 (by unfold lenOf; rw [if_pos h]) (by omega) (by omega))
    refine Ev.neg (fun e => h (hb.1 e)) ?_
    by_cases h5 : 224 ≤ c
    · exact Ev.pos (by omega) (hJ1 _ (by rw [decide_eq_true_iff]; omega) h)
    · exact Ev.neg (by omega) (hJ1 _ ⟨fun h => (by cases h), fun h => (by omega)⟩ h)
  by_cases h6 : 194 ≤ c
  · exact Ev.pos (by omega) (hJ0 _ (by rw [decide_eq_true_iff]; omega))
  · exact Ev.neg (by omega) (hJ0 _ ⟨fun h => (by cases h), fun h => (by omega)⟩)

/-- What Size tells is the first sign's length, but at a byte 0. -/
theorem szB_sign (s : ByteArray) (i : Nat) (hi : i < s.size) : signL (s.data.toList.drop i) = if B s i = 0 then 0 else szB s i := by
  have hl : (s.data.toList.drop i).length = s.size - i := by rw [List.length_drop, data_length]
  have hne : ¬ s.data.toList.drop i = [] := fun e => by rw [e] at hl; simp at hl; omega
  unfold signL
  rw [if_neg hne, hl, B_drop, B_drop, B_drop, B_drop, Nat.add_zero]
  unfold sgnN szB lenOf
  by_cases h0 : B s i = 0
  · rw [if_pos h0, if_pos h0]
  rw [if_neg h0, if_neg h0]
  by_cases h1 : B s i < 128
  · rw [if_pos h1, if_pos h1]
  rw [if_neg h1, if_neg h1]
  by_cases h2 : 194 ≤ B s i ∧ B s i ≤ 223
  · rw [if_pos h2, if_pos h2]
    have hb : badD (B s i) (B s (i + 1)) = false := by rw [← Bool.not_eq_true, badD_iff]; omega
    simp only [contN, hb, Bool.and_true, Bool.not_false, Bool.and_eq_true, decide_eq_true_eq]
    by_cases hn : s.size < i + 2
    · rw [if_neg (by omega), if_pos (.inr hn)]
    · rw [if_neg (show ¬ (2 = 0 ∨ s.size < i + 2) by omega)]
      by_cases hc : 128 ≤ B s (i + 1) ∧ B s (i + 1) ≤ 191
      · rw [if_pos (by omega), if_pos hc]
      · rw [if_neg (by omega), if_neg hc]
  rw [if_neg h2, if_neg h2]
  by_cases h3 : 224 ≤ B s i ∧ B s i ≤ 239
  · rw [if_pos h3, if_pos h3]
    have e2 : i + (1 + 1) = i + 2 := rfl
    simp only [contN, e2, Bool.and_true, Bool.and_eq_true, decide_eq_true_eq, Bool.not_eq_true', ← Bool.not_eq_true, badD_iff]
    by_cases hn : s.size < i + 3
    · rw [if_neg (by omega), if_pos (.inr hn)]
    · rw [if_neg (show ¬ (3 = 0 ∨ s.size < i + 3) by omega)]
      by_cases hc : ((128 ≤ B s (i + 1) ∧ B s (i + 1) ≤ 191) ∧ 128 ≤ B s (i + 2) ∧ B s (i + 2) ≤ 191) ∧ ¬ ((B s i = 224 ∧ B s (i + 1) < 160) ∨ (B s i = 237 ∧ B s (i + 1) > 159) ∨ (B s i = 240 ∧ B s (i + 1) < 144) ∨ (B s i = 244 ∧ B s (i + 1) > 143))
      · rw [if_pos (by omega), if_pos hc]
      · rw [if_neg (by omega), if_neg hc]
  rw [if_neg h3, if_neg h3]
  by_cases h4 : 240 ≤ B s i ∧ B s i ≤ 244
  · rw [if_pos h4, if_pos h4]
    have e2 : i + (1 + 1) = i + 2 := rfl
    have e3 : i + (1 + 1 + 1) = i + 3 := rfl
    simp only [contN, e2, e3, Bool.and_true, Bool.and_eq_true, decide_eq_true_eq, Bool.not_eq_true', ← Bool.not_eq_true, badD_iff]
    by_cases hn : s.size < i + 4
    · rw [if_neg (by omega), if_pos (.inr hn)]
    · rw [if_neg (show ¬ (4 = 0 ∨ s.size < i + 4) by omega)]
      by_cases hc : ((128 ≤ B s (i + 1) ∧ B s (i + 1) ≤ 191) ∧ (128 ≤ B s (i + 2) ∧ B s (i + 2) ≤ 191) ∧ 128 ≤ B s (i + 3) ∧ B s (i + 3) ≤ 191) ∧ ¬ ((B s i = 224 ∧ B s (i + 1) < 160) ∨ (B s i = 237 ∧ B s (i + 1) > 159) ∨ (B s i = 240 ∧ B s (i + 1) < 144) ∨ (B s i = 244 ∧ B s (i + 1) > 143))
      · rw [if_pos (by omega), if_pos hc]
      · rw [if_neg (by omega), if_neg hc]
  rw [if_neg h4, if_neg h4, if_pos (.inl rfl)]

theorem norm_at (s : ByteArray) (i : Nat) (hi : i < s.size) : normL (s.data.toList.drop i) = if signL (s.data.toList.drop i) = 0 then bad ++ normL (s.data.toList.drop (i + 1)) else (s.data.toList.drop i).take (signL (s.data.toList.drop i)) ++ normL (s.data.toList.drop (i + signL (s.data.toList.drop i))) := by
  obtain ⟨c, l, h⟩ : ∃ c l, s.data.toList.drop i = c :: l := by
    cases h : s.data.toList.drop i with
    | nil => have := congrArg List.length h; rw [List.length_drop, data_length] at this; simp at this; omega
    | cons c l => exact ⟨c, l, rfl⟩
  have h1 := drop_next s i h
  rw [h1, ← List.drop_drop, h]
  by_cases hk : signL (c :: l) = 0
  · rw [if_pos hk, norm_bad _ _ hk]
  · rw [if_neg hk, norm_sign _ _ hk]

def sg (s : ByteArray) (i : Nat) : Nat := signL (s.data.toList.drop i)
theorem sg_le (s : ByteArray) (i : Nat) : i ≤ s.size → i + sg s i ≤ s.size := by
  intro h
  have := sign_le (s.data.toList.drop i)
  rw [List.length_drop, data_length] at this
  unfold sg; omega
theorem strOfNums_bytes (l : List UInt8) : strOfNums (l.map fun b => (b.toNat : Int)) = ⟨l.toArray⟩ := by
  apply ext_list
  rw [strOfNums_data, List.map_map]
  show _ = l
  conv => rhs; rw [← List.map_id l]
  refine List.map_congr_left fun b _ => ?_
  show UInt8.ofNat ((b.toNat : Int).toNat) = b
  rw [Int.toNat_natCast, UInt8.ofNat_toNat]
def nums (l : List UInt8) : List Int := l.map fun b => (b.toNat : Int)

theorem refNorm_ev (s : ByteArray) (hs : s.size ≤ 10000000000000) : ∀ (d i : Nat) (acc : List UInt8), s.size - i = d → i ≤ s.size → acc.length + 3 * (s.size - i) ≤ 3 * s.size →
    Ev (fun k => stoleref1_Norm.l0 k s (nums acc) (i : Int)) ⟨(acc ++ normL (s.data.toList.drop i)).toArray⟩ := by
  intro d
  induction d using Nat.strongRecOn with
  | _ d ih =>
    intro i acc hd hi hlen
    have hnl : (nums acc).length = acc.length := by unfold nums; rw [List.length_map]
    refine Ev.step (f := fun k => _) (fun k => by rw [stoleref1_Norm.l0]) ?_
    by_cases he : i = s.size
    · refine Ev.neg (by omega) (Ev.cast (Ev.now _) ?_)
      have : s.data.toList.drop i = [] := List.drop_eq_nil_of_le (by rw [data_length]; omega)
      rw [this, norm_nil, List.append_nil]
      exact strOfNums_bytes acc
    refine Ev.pos (by omega) (Ev.bind (size_ev s i (by omega) (by omega)) ?_)
    have hz := szB_sign s i (by omega)
    have hst := norm_at s i (by omega)
    have hb3 : nums bad = [239, 191, 189] := by decide +kernel
    have hbad : ∀ (h : sg s i = 0), Ev (fun k => (some (([239, 191, 189] : List Int) : List Int)).bind fun y => if (nums acc).length + y.length < 140737488355328 then stoleref1_Norm.l0 k s (nums acc ++ y) (wrap64 ((i : Int) + 1)) else none) ⟨(acc ++ normL (s.data.toList.drop i)).toArray⟩ := by
      intro h
      unfold sg at h
      refine Ev.bindC rfl (Ev.pos (by rw [hnl]; simp; omega) ?_)
      rw [wrap_one i (by omega), ← hb3, show nums acc ++ nums bad = nums (acc ++ bad) from by unfold nums; rw [List.map_append]]
      refine Ev.cast (ih (s.size - (i + 1)) (by omega) (i + 1) (acc ++ bad) rfl (by omega) (by rw [List.length_append]; simp only [bad, List.length_cons, List.length_nil]; omega)) ?_
      rw [hst, if_pos h, List.append_assoc]
    by_cases h0 : szB s i = 0
    · refine Ev.pos (by omega) (hbad ?_)
      unfold sg
      rw [hz, h0]; split <;> rfl
    refine Ev.neg (by omega) (Ev.pos (by omega) ?_)
    rw [bt_B]
    by_cases h1 : B s i = 0
    · exact Ev.pos (by omega) (hbad (by unfold sg; rw [hz, if_pos h1]))
    refine Ev.neg (by omega) ?_
    rw [if_neg h1] at hz
    have hsl := sg_le s i hi
    unfold sg at hsl
    rw [hz] at hst hsl
    rw [wrap_add i (szB s i) (by omega)]
    have hex : (s.extract (i : Int).toNat (((i + szB s i : Nat) : Int)).toNat).data.toList = (s.data.toList.drop i).take (szB s i) := by
      rw [Int.toNat_natCast, Int.toNat_natCast, Lib.extract_data, Nat.add_sub_cancel_left]
    have hexs : (s.extract (i : Int).toNat (((i + szB s i : Nat) : Int)).toNat).size = szB s i := by
      rw [← data_length, hex, List.length_take, List.length_drop, data_length]; omega
    refine Ev.pos (by omega) (Ev.pos (by omega) (Ev.pos (by rw [hnl, hexs]; omega) ?_))
    have e : nums acc ++ bytesOf (s.extract (i : Int).toNat (((i + szB s i : Nat) : Int)).toNat) = nums (acc ++ (s.data.toList.drop i).take (szB s i)) := by
      unfold nums bytesOf
      rw [hex, List.map_append]
    rw [e]
    refine Ev.cast (ih (s.size - (i + szB s i)) (by omega) (i + szB s i) _ rfl (by omega) (by rw [List.length_append, List.length_take, List.length_drop, data_length]; omega)) ?_
    rw [hst, if_neg h0, List.append_assoc]

theorem refNorm_ok (s : ByteArray) (hs : s.size ≤ 10000000000000) : Ev (fun k => stoleref1_Norm.f k s) (normS s) :=
  refNorm_ev s hs s.size 0 [] rfl (by omega) (by simp)
end Go.Proofs.YtfncppekjgbedaaGreatDoor.Pure
