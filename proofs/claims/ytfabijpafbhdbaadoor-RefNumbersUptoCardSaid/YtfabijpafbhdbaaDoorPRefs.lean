/- Refs, RefBack, RefSafe, RefPlain: the plain laws. -/
import Derived.Test.YtfabijpafbhdbaaDoorXR7
import Derived.Test.YtfabijpafbhdbaaDoorPRefDec
namespace Go.Proofs.YtfabijpafbhdbaaDoor.Pure
open Go.RowKit Go.Proofs.YtfabijpafbhdbaaDoor.XR Go.Proofs.YtfabijpafbhdbaaDoorW.PrintWords Go.Proofs.YtfabijpafbhdbaaDoorW.PrintLast Go.Proofs.YtfabijpafbhdbaaDoor.Base Go.Proofs.YtfabijpafbhdbaaDoor.Ext Go.Proofs.YtfabijpafbhdbaaDoor.Utf Go.Proofs.YtfabijpafbhdbaaDoor.Refs

theorem awake2 : stolelaw2_awake.f = some true := by decide +kernel
theorem enc_ok (s : ByteArray) (h : 18 * s.size ≤ 140737488355328) : refs_Encode.f s = some (encS s) := by unfold refs_Encode.f; rw [if_pos h]
theorem dec_ok (s : ByteArray) (h : s.size ≤ 140737488355328) : refs_Decode.f s = some (decS s) := by unfold refs_Decode.f; rw [if_pos h]
theorem encS_data (s : ByteArray) : (encS s).data.toList = encL (normL s.data.toList) := rfl
theorem decS_data (s : ByteArray) : (decS s).data.toList = decL s.data.toList := rfl
theorem normS_data (s : ByteArray) : (normS s).data.toList = normL s.data.toList := rfl
theorem encL_len (l : List UInt8) : (encL l).length ≤ 6 * l.length := by
  induction l with
  | nil => exact Nat.le_refl _
  | cons b l ih =>
    rw [encL_cons, List.length_append, List.length_cons]
    have : (encB b).length ≤ 6 := all_bytes (fun b => (encB b).length ≤ 6) (by decide +kernel) b
    omega
theorem encS_size (s : ByteArray) : (encS s).size ≤ 18 * s.size := by
  rw [← data_length, encS_data]
  have h1 := encL_len (normL s.data.toList)
  have h2 := norm_len s.data.toList
  rw [data_length] at h2
  omega

theorem Refs (s : ByteArray) (_ : s.size ≤ 140737488351232) (hb : s.size ≤ 1048576) : ∃ k, stolelaw2_Refs.f k s = some true := by
  refine Ev.rounds ?_
  unfold stolelaw2_Refs.f
  exact Ev.bindC (enc_ok s (by omega)) (Ev.bind (refEnc_ok s (by omega)) (Ev.pos rfl (Ev.bindC (dec_ok s (by omega)) (Ev.bind (refDec_ok s (by omega)) (Ev.pos rfl (Ev.bindC awake2 (Ev.now true)))))))

/-- The text of references of s, then t: decoded. -/
theorem dec_front (s t : ByteArray) : decS (encS s ++ t) = normS s ++ decS t := by
  apply ext_list
  rw [data_append, decS_data, data_append, encS_data, dec_enc]; rfl
theorem dec_enc_S (s : ByteArray) : decS (encS s) = normS s := by
  apply ext_list
  rw [decS_data, encS_data, dec_enc']; rfl
theorem enc_front (s t : ByteArray) : encS (normS s ++ t) = encS s ++ encS t := by
  apply ext_list
  rw [data_append, encS_data, encS_data, encS_data, data_append, normS_data, norm_append, encL_append]

theorem safe_ne {b : UInt8} (h : safeB b = true) : b.toNat ≠ 60 ∧ b.toNat ≠ 62 ∧ b.toNat ≠ 34 ∧ b.toNat ≠ 39 ∧ b.toNat ≠ 13 := by
  unfold safeB at h
  simp only [Bool.and_eq_true, bne_iff_ne] at h
  exact ⟨h.1.1.1.1, h.1.1.1.2, h.1.1.2, h.1.2, h.2⟩
theorem back_l0 (s t x : ByteArray) (hx : x.size ≤ 1000000000) (hsafe : ∀ b ∈ x.data.toList, safeB b = true ∧ b ≠ 0) {r : Bool}
    (H : Ev (fun k => (refs_Decode.f x).bind fun t189 => ((stoleref1_Norm.f k s).bind fun t190 => (if t189.toList = t190.toList then ((stoleref1_Norm.f k s).bind fun t191 => (if t191.size + t.size ≤ 9223372036854775807 then ((refs_Encode.f (t191 ++ t)).bind fun t192 => ((refs_Encode.f t).bind fun t193 => (if x.size + t193.size ≤ 9223372036854775807 then (if t192.toList = (x ++ t193).toList then ((refs_Encode.f t).bind fun t194 => (if x.size + t194.size ≤ 9223372036854775807 then ((refs_Decode.f (x ++ t194)).bind fun t195 => ((stoleref1_Norm.f k s).bind fun t196 => ((stoleref1_Norm.f k t).bind fun t197 => (if t196.size + t197.size ≤ 9223372036854775807 then (some (t195.toList == (t196 ++ t197).toList)) else (none))))) else (none))) else (some false)) else (none)))) else (none))) else (some false)))) r) :
    ∀ (d i : Nat), x.size - i = d → i ≤ x.size → Ev (fun k => stolelaw2_RefBack.l0 k s t x (i : Int)) r := by
  intro d
  induction d with
  | zero =>
    intro i hd hi
    refine Ev.step (f := fun k => _) (fun k => by rw [stolelaw2_RefBack.l0]) ?_
    exact Ev.neg (by omega) H
  | succ d ih =>
    intro i hd hi
    have hil : i < x.data.toList.length := by rw [data_length]; omega
    obtain ⟨c, l, hcl⟩ : ∃ c l, x.data.toList.drop i = c :: l := ⟨_, _, List.drop_eq_getElem_cons hil⟩
    have hmem : c ∈ x.data.toList := by
      have : c ∈ x.data.toList.drop i := by rw [hcl]; exact List.mem_cons_self ..
      exact List.mem_of_mem_drop this
    obtain ⟨h1, h0⟩ := hsafe c hmem
    have h2 := safe_ne h1
    have h3 : c.toNat ≠ 0 := fun e => h0 (UInt8.toNat_inj.1 e)
    refine Ev.step (f := fun k => _) (fun k => by rw [stolelaw2_RefBack.l0]) ?_
    rw [bt_drop x i hcl, wrap_one i (by omega)]
    exact Ev.pos (by omega) (Ev.pos (by omega) (Ev.neg (by omega) (Ev.neg (by omega) (Ev.neg (by omega) (Ev.neg (by omega) (Ev.neg (by omega) (Ev.neg (by omega) (ih (i + 1) (by omega) (by omega)))))))))

theorem RefBack (s t : ByteArray) (_ : s.size ≤ 140737488351232) (_ : t.size ≤ 140737488351232) (hb : s.size + t.size ≤ 1048576) : ∃ k, stolelaw2_RefBack.f k s t = some true := by
  refine Ev.rounds ?_
  unfold stolelaw2_RefBack.f
  have hes := encS_size s
  have het := encS_size t
  have hns := normS_le s
  have hnt := normS_le t
  have hN := fun u (h : u.size ≤ 10000000000000) => refNorm_ok u h
  have e1 : (encS s ++ encS t).size = (encS s).size + (encS t).size := size_append _ _
  have e2 : (normS s ++ t).size = (normS s).size + t.size := size_append _ _
  refine Ev.bindC awake2 (Ev.pos rfl (Ev.bindC (enc_ok s (by omega)) ?_))
  refine back_l0 s t (encS s) (by omega) (fun b hbm => ⟨enc_safe _ b hbm, enc_nonzero _ (norm_nonzero _) b hbm⟩) ?_ (encS s).size 0 rfl (by omega)
  refine Ev.bindC (dec_ok _ (by omega)) (Ev.bind (hN s (by omega)) ?_)
  rw [dec_enc_S]
  refine Ev.pos rfl (Ev.bind (hN s (by omega)) (Ev.pos (by omega) (Ev.bindC (enc_ok _ (by omega)) (Ev.bindC (enc_ok t (by omega)) (Ev.pos (by omega) ?_)))))
  rw [enc_front]
  refine Ev.pos rfl (Ev.bindC (enc_ok t (by omega)) (Ev.pos (by omega) (Ev.bindC (dec_ok _ (by omega)) (Ev.bind (hN s (by omega)) (Ev.bind (hN t (by omega)) (Ev.pos (by omega) ?_))))))
  rw [dec_front, dec_enc_S, beq_self_eq_true]
  exact Ev.now true

theorem decL_len (l : List UInt8) : (decL l).length ≤ l.length := by
  generalize hn : l.length = n
  induction n using Nat.strongRecOn generalizing l with
  | _ n ih =>
    cases l with
    | nil => exact Nat.zero_le _
    | cons c l =>
      simp only [List.length_cons] at hn
      have hplain : decL (c :: l) = c :: decL l → (decL (c :: l)).length ≤ n := by
        intro h
        rw [h, List.length_cons]
        have := ih l.length (by omega) l rfl
        omega
      by_cases h38 : c = 38
      · subst h38
        cases hr : refAt (38 :: l) with
        | none => exact hplain (decL_none _ _ hr)
        | some p =>
          obtain ⟨x, k⟩ := p
          obtain ⟨h1, h2, h3⟩ := refAt_len hr
          obtain ⟨j, rfl⟩ : ∃ j, k = j + 1 := ⟨k - 1, by omega⟩
          rw [decL_some l x j hr, List.length_append]
          have := ih (l.drop j).length (by rw [List.length_drop]; omega) (l.drop j) rfl
          rw [List.length_drop] at this
          simp only [List.length_cons] at h3
          omega
      · exact hplain (decL_plain _ _ h38)
theorem decS_size (s : ByteArray) : (decS s).size ≤ s.size := by
  rw [← data_length, decS_data]
  have := decL_len s.data.toList
  rwa [data_length] at this
theorem RefSafe (s t : ByteArray) (_ : s.size ≤ 140737488351232) (_ : t.size ≤ 140737488351232) (hb : s.size + t.size ≤ 1048576) : ∃ k, stolelaw2_RefSafe.f k s t = some true := by
  refine Ev.rounds ?_
  unfold stolelaw2_RefSafe.f
  have hes := encS_size s
  have hee := encS_size (encS s)
  have hns := normS_le s
  have hN := fun u (h : u.size ≤ 10000000000000) => refNorm_ok u h
  have e1 : (encS s ++ t).size = (encS s).size + t.size := size_append _ _
  have hde : decS (encS (encS s)) = encS s := by
    rw [dec_enc_S]
    apply ext_list
    rw [normS_data, encS_data, norm_enc]
  have hdt := decS_size t
  refine Ev.bindC awake2 (Ev.pos rfl (Ev.bindC (enc_ok s (by omega)) (Ev.bindC (enc_ok _ (by omega)) (Ev.bindC (dec_ok _ (by omega)) ?_))))
  rw [hde]
  refine Ev.bindC (dec_ok _ (by omega)) (Ev.bind (hN s (by omega)) ?_)
  rw [dec_enc_S]
  refine Ev.pos rfl (Ev.bindC (enc_ok s (by omega)) (Ev.pos (by omega) (Ev.bindC (dec_ok _ (by omega)) (Ev.bind (hN s (by omega)) (Ev.bindC (dec_ok t (by omega)) (Ev.pos (by omega) ?_))))))
  rw [dec_front]
  exact Ev.pos rfl (Ev.bindC (show stolelaw0_Num.f 0 = some 0 from rfl) (Ev.now true))

/-- What has no ; stays. -/
theorem dec_plain : ∀ (l : List UInt8), (59 : UInt8) ∉ l → decL l = l
  | [], _ => rfl
  | c :: l, h => by
    have h2 : (59 : UInt8) ∉ l := fun hm => h (List.mem_cons_of_mem _ hm)
    have : refAt (c :: l) = none := by
      unfold refAt
      rw [indexByte_absent _ _ (fun hm => h (List.mem_of_mem_take hm)), if_neg (by decide)]
    rw [decL_none c l this, dec_plain l h2]
theorem plain_end (s x : ByteArray) (hx : x.size ≤ 1000) (h : (59 : UInt8) ∉ x.data.toList) (i : Int) : Ev (fun k => stolelaw2_RefPlain.j1 k s x i false) true := by
  refine Ev.step (f := fun k => _) (fun k => by rw [stolelaw2_RefPlain.j1]) (Ev.neg (by decide) (Ev.bindC (dec_ok x (by omega)) (Ev.cast (Ev.now _) ?_)))
  rw [list_eq, list_eq, decS_data, dec_plain _ h, beq_self_eq_true]
theorem plain_l0 (s : ByteArray) : ∀ (d i : Nat) (x : ByteArray), 500 - i = d → i ≤ 500 → i ≤ s.size → x.size ≤ i → (59 : UInt8) ∉ x.data.toList → Ev (fun k => stolelaw2_RefPlain.l0 k s x (i : Int)) true := by
  intro d
  induction d with
  | zero =>
    intro i x hd hi hs hx h
    refine Ev.step (f := fun k => _) (fun k => by rw [stolelaw2_RefPlain.l0]) ?_
    have he := plain_end s x (by omega) h (i : Int)
    by_cases h1 : i < s.size
    · refine Ev.pos (by omega) ?_
      rw [decide_eq_false (by omega)]; exact he
    · exact Ev.neg (by omega) he
  | succ d ih =>
    intro i x hd hi hs hx h
    refine Ev.step (f := fun k => _) (fun k => by rw [stolelaw2_RefPlain.l0]) ?_
    by_cases h1 : i < s.size
    · have hil : i < s.data.toList.length := by rw [data_length]; omega
      obtain ⟨c, l, hcl⟩ : ∃ c l, s.data.toList.drop i = c :: l := ⟨_, _, List.drop_eq_getElem_cons hil⟩
      refine Ev.pos (by omega) ?_
      rw [decide_eq_true (by omega)]
      refine Ev.step (f := fun k => _) (fun k => by rw [stolelaw2_RefPlain.j1]) (Ev.pos rfl (Ev.pos (by omega) (Ev.pos (by omega) ?_)))
      rw [bt_drop s i hcl, wrap_one i (by omega)]
      by_cases hc : c.toNat = 59
      · exact Ev.pos (by omega) (ih (i + 1) x (by omega) (by omega) (by omega) (by omega) h)
      · have hcut : (s.extract (i : Int).toNat ((i + 1 : Nat) : Int).toNat).data.toList = [c] := by
          rw [Int.toNat_natCast, Int.toNat_natCast, Lib.extract_data, hcl, show i + 1 - i = 1 from by omega]; rfl
        have hcs : (s.extract (i : Int).toNat ((i + 1 : Nat) : Int).toNat).size = 1 := by rw [← data_length, hcut]; rfl
        refine Ev.neg (by omega) (Ev.pos (by omega) (Ev.pos (by omega) (Ev.pos (by omega) ?_)))
        refine ih (i + 1) _ (by omega) (by omega) (by omega) (by rw [size_append]; omega) ?_
        rw [data_append, hcut]
        intro hm
        rcases List.mem_append.1 hm with hm | hm
        · exact h hm
        · apply hc; rw [← List.mem_singleton.1 hm]; rfl
    · exact Ev.neg (by omega) (plain_end s x (by omega) h (i : Int))
theorem RefPlain (s : ByteArray) (_ : s.size ≤ 140737488351232) : ∃ k, stolelaw2_RefPlain.f k s = some true := by
  refine Ev.rounds ?_
  unfold stolelaw2_RefPlain.f
  exact Ev.bindC awake2 (Ev.pos rfl (plain_l0 s 500 0 _ rfl (by omega) (by omega) (Nat.zero_le _) (by simp)))
end Go.Proofs.YtfabijpafbhdbaaDoor.Pure
