/- Utfs: utf.May, Norm and Lower are the document's, of any text of at most 1048576 bytes: the plain law. -/
import Derived.Test.YtnhhbfanpnpgdaaDoorPureUtf
import Derived.Test.YtnhhbfanpnpgdaaDoorUtfMore
namespace Go.Proofs.YtnhhbfanpnpgdaaDoor.Pure
open Go.RowKit Go.Proofs.YtnhhbfanpnpgdaaDoor.XU Go.Proofs.YtnhhbfanpnpgdaaDoorW.PrintWords Go.Proofs.YtnhhbfanpnpgdaaDoorW.PrintLast Go.Proofs.YtnhhbfanpnpgdaaDoor.Base Go.Proofs.YtnhhbfanpnpgdaaDoor.Ext Go.Proofs.YtnhhbfanpnpgdaaDoor.Utf

theorem norm_ok (s : ByteArray) (h : 3 * s.size ≤ 140737488355328) : utf_Norm.f s = some (normS s) := by unfold utf_Norm.f; rw [if_pos h]
theorem lower_ok (s : ByteArray) (h : s.size ≤ 4611686018427387904) : utf_Lower.f s = some (lowS s) := by unfold utf_Lower.f; rw [if_pos h]
theorem may_ok (s : ByteArray) (h : 3 * s.size ≤ 140737488355328) : utf_May.f s = some (normL s.data.toList == s.data.toList) := by
  unfold utf_May.f
  rw [norm_ok s h, Option.bind_some, list_eq, list_eq]
  rfl
theorem norm_at (s : ByteArray) (i : Nat) (hi : i < s.size) : normL (s.data.toList.drop i) = if signL (s.data.toList.drop i) = 0 then bad ++ normL (s.data.toList.drop (i + 1)) else (s.data.toList.drop i).take (signL (s.data.toList.drop i)) ++ normL (s.data.toList.drop (i + signL (s.data.toList.drop i))) := by
  obtain ⟨c, l, h⟩ : ∃ c l, s.data.toList.drop i = c :: l := by
    cases h : s.data.toList.drop i with
    | nil => have := congrArg List.length h; rw [List.length_drop, data_length] at this; simp at this; omega
    | cons c l => exact ⟨c, l, rfl⟩
  have h1 := drop_next s i h
  rw [h1, ← List.drop_drop, h]
  by_cases hk : signL (c :: l) = 0
  · rw [if_pos hk, norm_bad _ _ hk]
  · rw [if_neg hk, norm_sign _ _ hk]

def sg (s : ByteArray) (i : Nat) : Nat := signL (s.data.toList.drop i)
theorem sg_le (s : ByteArray) (i : Nat) : i ≤ s.size → i + sg s i ≤ s.size := by
  intro h
  have := sign_le (s.data.toList.drop i)
  rw [List.length_drop, data_length] at this
  unfold sg; omega
theorem strOfNums_bytes (l : List UInt8) : strOfNums (l.map fun b => (b.toNat : Int)) = ⟨l.toArray⟩ := by
  apply ext_list
  rw [strOfNums_data, List.map_map]
  show _ = l
  conv => rhs; rw [← List.map_id l]
  refine List.map_congr_left fun b _ => ?_
  show UInt8.ofNat ((b.toNat : Int).toNat) = b
  rw [Int.toNat_natCast, UInt8.ofNat_toNat]
def nums (l : List UInt8) : List Int := l.map fun b => (b.toNat : Int)

theorem refNorm_ev (s : ByteArray) (hs : s.size ≤ 10000000000000) : ∀ (d i : Nat) (acc : List UInt8), s.size - i = d → i ≤ s.size → acc.length + 3 * (s.size - i) ≤ 3 * s.size →
    Ev (fun k => stoleref1_Norm.l0 k s (nums acc) (i : Int)) ⟨(acc ++ normL (s.data.toList.drop i)).toArray⟩ := by
  intro d
  induction d using Nat.strongRecOn with
  | _ d ih =>
    intro i acc hd hi hlen
    have hnl : (nums acc).length = acc.length := by unfold nums; rw [List.length_map]
    refine Ev.step (f := fun k => _) (fun k => by rw [stoleref1_Norm.l0]) ?_
    by_cases he : i = s.size
    · refine Ev.neg (by omega) (Ev.cast (Ev.now _) ?_)
      have : s.data.toList.drop i = [] := List.drop_eq_nil_of_le (by rw [data_length]; omega)
      rw [this, norm_nil, List.append_nil]
      exact strOfNums_bytes acc
    refine Ev.pos (by omega) (Ev.bind (size_ev s i (by omega) (by omega)) ?_)
    have hz := szB_sign s i (by omega)
    have hst := norm_at s i (by omega)
    have hb3 : nums bad = [239, 191, 189] := by decide +kernel
    have hbad : ∀ (h : sg s i = 0), Ev (fun k => (some (([239, 191, 189] : List Int) : List Int)).bind fun y => if (nums acc).length + y.length < 140737488355328 then stoleref1_Norm.l0 k s (nums acc ++ y) (wrap64 ((i : Int) + 1)) else none) ⟨(acc ++ normL (s.data.toList.drop i)).toArray⟩ := by
      intro h
      unfold sg at h
      refine Ev.bindC rfl (Ev.pos (by rw [hnl]; simp; omega) ?_)
      rw [wrap_one i (by omega), ← hb3, show nums acc ++ nums bad = nums (acc ++ bad) from by unfold nums; rw [List.map_append]]
      refine Ev.cast (ih (s.size - (i + 1)) (by omega) (i + 1) (acc ++ bad) rfl (by omega) (by rw [List.length_append]; simp only [bad, List.length_cons, List.length_nil]; omega)) ?_
      rw [hst, if_pos h, List.append_assoc]
    by_cases h0 : szB s i = 0
    · refine Ev.pos (by omega) (hbad ?_)
      unfold sg
      rw [hz, h0]; split <;> rfl
    refine Ev.neg (by omega) (Ev.pos (by omega) ?_)
    rw [bt_B]
    by_cases h1 : B s i = 0
    · exact Ev.pos (by omega) (hbad (by unfold sg; rw [hz, if_pos h1]))
    refine Ev.neg (by omega) ?_
    rw [if_neg h1] at hz
    have hsl := sg_le s i hi
    unfold sg at hsl
    rw [hz] at hst hsl
    rw [wrap_add i (szB s i) (by omega)]
    have hex : (s.extract (i : Int).toNat (((i + szB s i : Nat) : Int)).toNat).data.toList = (s.data.toList.drop i).take (szB s i) := by
      rw [Int.toNat_natCast, Int.toNat_natCast, Lib.extract_data, Nat.add_sub_cancel_left]
    have hexs : (s.extract (i : Int).toNat (((i + szB s i : Nat) : Int)).toNat).size = szB s i := by
      rw [← data_length, hex, List.length_take, List.length_drop, data_length]; omega
    refine Ev.pos (by omega) (Ev.pos (by omega) (Ev.pos (by rw [hnl, hexs]; omega) ?_))
    have e : nums acc ++ bytesOf (s.extract (i : Int).toNat (((i + szB s i : Nat) : Int)).toNat) = nums (acc ++ (s.data.toList.drop i).take (szB s i)) := by
      unfold nums bytesOf
      rw [hex, List.map_append]
    rw [e]
    refine Ev.cast (ih (s.size - (i + szB s i)) (by omega) (i + szB s i) _ rfl (by omega) (by rw [List.length_append, List.length_take, List.length_drop, data_length]; omega)) ?_
    rw [hst, if_neg h0, List.append_assoc]

theorem refMay_ev (s : ByteArray) (hs : s.size ≤ 10000000000000) : ∀ (d i : Nat), s.size - i = d → i ≤ s.size →
    Ev (fun k => stoleref1_May.l0 k s (i : Int)) (normL (s.data.toList.drop i) == s.data.toList.drop i) := by
  intro d
  induction d using Nat.strongRecOn with
  | _ d ih =>
    intro i hd hi
    refine Ev.step (f := fun k => _) (fun k => by rw [stoleref1_May.l0]) ?_
    by_cases he : i = s.size
    · refine Ev.neg (by omega) (Ev.cast (Ev.now _) ?_)
      have : s.data.toList.drop i = [] := List.drop_eq_nil_of_le (by rw [data_length]; omega)
      rw [this, norm_nil]; rfl
    refine Ev.pos (by omega) (Ev.bind (size_ev s i (by omega) (by omega)) ?_)
    have hz := szB_sign s i (by omega)
    have hst := norm_at s i (by omega)
    have hdl : (s.data.toList.drop i).length = s.size - i := by rw [List.length_drop, data_length]
    have hbad : sg s i = 0 → (normL (s.data.toList.drop i) == s.data.toList.drop i) = false := by
      intro h
      unfold sg at h
      rw [hst, if_pos h, beq_eq_false_iff_ne]
      intro e
      obtain ⟨c, l, hc⟩ : ∃ c l, s.data.toList.drop i = c :: l := by
        cases h : s.data.toList.drop i with
        | nil => rw [h] at hdl; simp at hdl; omega
        | cons c l => exact ⟨c, l, rfl⟩
      have hn := drop_next s i hc
      have hle := norm_len_ge (s.data.toList.drop (i + 1))
      have := congrArg List.length e
      rw [List.length_append, hdl] at this
      rw [List.length_drop, data_length] at hle
      simp only [bad, List.length_cons, List.length_nil] at this
      omega
    by_cases h0 : szB s i = 0
    · refine Ev.pos (by omega) (Ev.cast (Ev.now false) (hbad ?_).symm)
      unfold sg
      rw [hz, h0]; split <;> rfl
    refine Ev.neg (by omega) (Ev.pos (by omega) ?_)
    rw [bt_B]
    by_cases h1 : B s i = 0
    · exact Ev.pos (by omega) (Ev.cast (Ev.now false) (hbad (by unfold sg; rw [hz, if_pos h1])).symm)
    refine Ev.neg (by omega) ?_
    rw [if_neg h1] at hz
    have hsl := sg_le s i hi
    unfold sg at hsl
    rw [hz] at hst hsl
    rw [wrap_add i (szB s i) (by omega)]
    refine Ev.cast (ih (s.size - (i + szB s i)) (by omega) (i + szB s i) rfl (by omega)) ?_
    rw [hst, if_neg h0, Bool.eq_iff_iff, beq_iff_eq, beq_iff_eq, ← List.drop_drop]
    constructor
    · intro e
      rw [e, List.take_append_drop]
    · intro e
      have e2 := List.take_append_drop (szB s i) (s.data.toList.drop i)
      exact List.append_cancel_left (e.trans e2.symm)

theorem refLow_b : ∀ n : Nat, n < 256 → stoleref1_Low.f (n : Int) = some ((lowN n : Nat) : Int) := by decide +kernel
theorem refLower_ev (s : ByteArray) (hs : s.size ≤ 10000000000000) : ∀ (d i : Nat), s.size - i = d → i ≤ s.size →
    Ev (fun k => stoleref1_Lower.l0 k s (nums ((s.data.toList.take i).map lowB) ++ List.replicate (s.size - i) 0) (i : Int)) (lowS s) := by
  intro d
  induction d with
  | zero =>
    intro i hd hi
    refine Ev.step (f := fun k => _) (fun k => by rw [stoleref1_Lower.l0]) ?_
    refine Ev.neg (by omega) (Ev.cast (Ev.now _) ?_)
    rw [hd, List.replicate_zero, List.append_nil, List.take_of_length_le (by rw [data_length]; omega)]
    exact strOfNums_bytes _
  | succ d ih =>
    intro i hd hi
    refine Ev.step (f := fun k => _) (fun k => by rw [stoleref1_Lower.l0]) ?_
    have hil : i < s.data.toList.length := by rw [data_length]; omega
    have htl : (nums ((s.data.toList.take i).map lowB)).length = i := by unfold nums; rw [List.length_map, List.length_map, List.length_take, data_length]; omega
    refine Ev.pos (by omega) (Ev.pos (by omega) ?_)
    rw [bt_B]
    refine Ev.bindC (refLow_b _ (B_lt s i)) (Ev.pos (by rw [List.length_append, htl, List.length_replicate]; omega) ?_)
    rw [wrap_one i (by omega)]
    refine Ev.cast ?_ rfl
    have hrec := ih (i + 1) (by omega) (by omega)
    have e : (nums ((s.data.toList.take i).map lowB) ++ List.replicate (s.size - i) 0).set (i : Int).toNat ((lowN (B s i) : Nat) : Int) = nums ((s.data.toList.take (i + 1)).map lowB) ++ List.replicate (s.size - (i + 1)) 0 := by
      rw [Int.toNat_natCast, List.set_append_right _ _ (by omega), htl, Nat.sub_self, show s.size - i = (s.size - (i + 1)) + 1 from by omega, List.replicate_succ, List.set_cons_zero]
      rw [List.take_succ_eq_append_getElem hil]
      unfold nums
      rw [List.map_append, List.map_append, List.append_assoc]
      congr 1
      simp only [List.map_cons, List.map_nil, List.cons_append, List.nil_append, lowB_nat]
      unfold B bAt
      rw [List.getD_eq_getElem?_getD, List.getElem?_eq_getElem hil, Option.getD_some]
    rw [e]
    exact hrec

theorem awake1 : stolelaw1_awake.f = some true := by decide +kernel

theorem Utfs (s : ByteArray) (_ : s.size ≤ 140737488351232) (hb : s.size ≤ 1048576) : ∃ k, stolelaw1_Utfs.f k s = some true := by
  refine Ev.rounds ?_
  unfold stolelaw1_Utfs.f
  have h1 : Ev (fun k => stoleref1_May.f k s) (normL s.data.toList == s.data.toList) := refMay_ev s (by omega) s.size 0 rfl (by omega)
  have h2 : Ev (fun k => stoleref1_Norm.f k s) (normS s) := refNorm_ev s (by omega) s.size 0 [] rfl (by omega) (by simp)
  have h3 : Ev (fun k => stoleref1_Lower.f k s) (lowS s) := by
    unfold stoleref1_Lower.f
    refine Ev.pos (by omega) (Ev.pos (by rw [Int.toNat_natCast]; omega) ?_)
    have := refLower_ev s (by omega) s.size 0 rfl (by omega)
    simpa [nums] using this
  exact Ev.bindC (may_ok s (by omega)) (Ev.bind h1 (Ev.pos (beq_self_eq_true _) (Ev.bindC (norm_ok s (by omega)) (Ev.bind h2 (Ev.pos rfl (Ev.bindC (lower_ok s (by omega)) (Ev.bind h3 (Ev.pos rfl (Ev.bindC awake1 (Ev.now true))))))))))
end Go.Proofs.YtnhhbfanpnpgdaaDoor.Pure
