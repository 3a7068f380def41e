/- The document's Decode (stoleref1.Decode) is the plain one. -/
import Derived.Test.YtfabijpafbhdbaaDoorPRefRef
namespace Go.Proofs.YtfabijpafbhdbaaDoor.Pure
open Go.RowKit Go.Proofs.YtfabijpafbhdbaaDoor.XR Go.Proofs.YtfabijpafbhdbaaDoorW.PrintWords Go.Proofs.YtfabijpafbhdbaaDoorW.PrintLast Go.Proofs.YtfabijpafbhdbaaDoor.Base Go.Proofs.YtfabijpafbhdbaaDoor.Ext Go.Proofs.YtfabijpafbhdbaaDoor.Utf Go.Proofs.YtfabijpafbhdbaaDoor.Refs

theorem low120 : ∀ n : Nat, n < 256 → (lowN n = 120 ↔ n = 120 ∨ n = 88) := by decide +kernel
theorem prefix_cons (a c : UInt8) (p l : List UInt8) : Lib.hasPrefix (c :: l) (a :: p) = true ↔ a = c ∧ Lib.hasPrefix l p = true := by
  unfold Lib.hasPrefix; rw [List.isPrefixOf_cons_cons, Bool.and_eq_true, beq_iff_eq]
theorem prefix_nil (l : List UInt8) : Lib.hasPrefix l [] = true := by unfold Lib.hasPrefix; cases l <;> rfl
theorem prefix_empty (a : UInt8) (p : List UInt8) : Lib.hasPrefix [] (a :: p) = false := rfl
theorem numberN_cons (c : UInt8) (l : List UInt8) : numberN (c :: l) = if lowN c.toNat = 120 then numN l 16 6 else numN (c :: l) 10 7 := rfl
/-- stoleref1.reference's number behind # is the program's. -/
theorem meant_number (l : List UInt8) : meantL (35 :: l) = (numberN l).map fun x => (Utf8.encode ((runeOf x : Nat) : Int)).data.toList := by
  unfold meantL
  have h35 : Lib.hasPrefix (35 :: l) [35] = true := (prefix_cons 35 35 [] l).2 ⟨rfl, prefix_nil l⟩
  cases l with
  | nil => rfl
  | cons c l =>
    have hp : (Lib.hasPrefix (35 :: c :: l) [35, 120] = true ∨ Lib.hasPrefix (35 :: c :: l) [35, 88] = true) ↔ lowN c.toNat = 120 := by
      rw [low120 _ c.toNat_lt, prefix_cons, prefix_cons, prefix_cons, prefix_cons]
      constructor
      · rintro (⟨_, h, _⟩ | ⟨_, h, _⟩)
        · left; rw [← h]; rfl
        · right; rw [← h]; rfl
      · rintro (h | h)
        · exact .inl ⟨rfl, (byte_eq h (by decide)).symm, prefix_nil _⟩
        · exact .inr ⟨rfl, (byte_eq h (by decide)).symm, prefix_nil _⟩
    rw [numberN_cons]
    by_cases h : lowN c.toNat = 120
    · rw [if_pos (hp.2 h), if_pos h]
      exact numL_N l 16 6
    · rw [if_neg (fun e => h (hp.1 e)), if_pos h35, if_neg h]
      exact numL_N (c :: l) 10 7
theorem meant_named (l : List UInt8) (h : ∀ m, l ≠ 35 :: m) : meantL l = nameL l := by
  have h35 : Lib.hasPrefix l [35] ≠ true := by
    cases l with
    | nil => decide
    | cons c l => intro e; rw [prefix_cons] at e; exact h l (by rw [← e.1])
  have h2 : ∀ a, Lib.hasPrefix l [35, a] ≠ true := by
    intro a
    cases l with
    | nil => exact fun e => by cases e
    | cons c l => intro e; rw [prefix_cons] at e; exact h l (by rw [← e.1])
  unfold meantL
  rw [if_neg (fun e => e.elim (h2 120) (h2 88)), if_neg h35]
def pairS : Option (List UInt8) → ByteArray × Bool
  | some x => (⟨x.toArray⟩, true)
  | none => (⟨#[]⟩, false)
theorem named_ok (s : ByteArray) : stoleref1_named.f s = some (pairS (nameL s.data.toList)).1 ∧ ((pairS (nameL s.data.toList)).1.toList != ([] : List UInt8)) = (pairS (nameL s.data.toList)).2 := by
  unfold stoleref1_named.f nameL
  rw [list_eq]
  generalize s.data.toList = l
  by_cases h0 : l = [97, 109, 112]
  · simp only [if_pos h0]; exact ⟨rfl, by rw [list_eq]; rfl⟩
  simp only [if_neg h0]
  by_cases h1 : l = [108, 116]
  · simp only [if_pos h1]; exact ⟨rfl, by rw [list_eq]; rfl⟩
  simp only [if_neg h1]
  by_cases h2 : l = [103, 116]
  · simp only [if_pos h2]; exact ⟨rfl, by rw [list_eq]; rfl⟩
  simp only [if_neg h2]
  by_cases h3 : l = [113, 117, 111, 116]
  · simp only [if_pos h3]; exact ⟨rfl, by rw [list_eq]; rfl⟩
  simp only [if_neg h3]
  by_cases h4 : l = [97, 112, 111, 115]
  · simp only [if_pos h4]; exact ⟨rfl, by rw [list_eq]; rfl⟩
  simp only [if_neg h4]
  by_cases h5 : l = [110, 98, 115, 112]
  · simp only [if_pos h5]; exact ⟨rfl, by rw [list_eq]; rfl⟩
  simp only [if_neg h5]
  by_cases h6 : l = [99, 111, 112, 121]
  · simp only [if_pos h6]; exact ⟨rfl, by rw [list_eq]; rfl⟩
  simp only [if_neg h6]
  exact ⟨rfl, by rw [list_eq]; rfl⟩
theorem strOf (l : List UInt8) : strOfNums (nums l) = ⟨l.toArray⟩ := strOfNums_bytes l
theorem reference_ok (s : ByteArray) : Ev (fun k => stoleref1_reference.f k s) (pairS (meantL s.data.toList)) := by
  have hnamed : (∀ m, s.data.toList ≠ 35 :: m) → Ev (fun k => stoleref1_reference.j0 k s false) (pairS (meantL s.data.toList)) := by
    intro h
    refine Ev.step (f := fun k => _) (fun k => by rw [stoleref1_reference.j0]) (Ev.neg (by decide) ?_)
    obtain ⟨h1, h2⟩ := named_ok s
    refine Ev.bindC h1 (Ev.cast (Ev.now _) ?_)
    rw [h2, meant_named _ h]
  unfold stoleref1_reference.f
  cases hcl : s.data.toList with
  | nil =>
    have h2 := hnamed (by rw [hcl]; intro m e; cases e)
    rw [hcl] at h2
    exact Ev.pos (list_nil.2 hcl) h2
  | cons c l =>
    have hne : ¬ s.toList = [] := fun e => by rw [list_nil, hcl] at e; cases e
    have hsz : 0 < s.size := by rw [← data_length, hcl]; simp
    have h0 := bt_drop s 0 (show s.data.toList.drop 0 = c :: l from hcl)
    refine Ev.neg hne (Ev.pos (by omega) ?_)
    rw [show (0 : Int) = ((0 : Nat) : Int) from rfl, h0]
    by_cases h35 : c.toNat = 35
    · obtain rfl := byte_eq h35 (by decide)
      rw [show ((((UInt8.ofNat 35).toNat : Nat) : Int) == 35) = true from rfl]
      refine Ev.step (f := fun k => _) (fun k => by rw [stoleref1_reference.j0]) (Ev.pos rfl (Ev.pos (by omega) ?_))
      have hn := number_ok (s.extract 1 s.size)
      rw [tail_data s hcl] at hn
      refine Ev.bind hn ?_
      rw [show (UInt8.ofNat 35 :: l) = 35 :: l from rfl, meant_number]
      cases hm : numberN l with
      | none => exact Ev.neg (by decide) (Ev.now _)
      | some y =>
        refine Ev.pos rfl (Ev.bind (rune_ok y) (Ev.cast (Ev.now _) ?_))
        rw [strOf]; rfl
    · rw [show ((c.toNat : Int) == 35) = false from by rw [beq_eq_false_iff_ne]; omega, ← hcl]
      exact hnamed (by rw [hcl]; intro m e; injection e with e _; subst e; exact h35 rfl)

theorem letter_b : ∀ n : Nat, n < 256 → stoleref1_Letter.f (n : Int) = some (decide (97 ≤ lowN n ∧ lowN n ≤ 122)) := by decide +kernel
theorem digit_b : ∀ n : Nat, n < 256 → stoleref1_Digit.f (n : Int) = some (decide (48 ≤ n ∧ n ≤ 57)) := by decide +kernel

/-- One sign of a text with references, as the document has it. -/
theorem dec_l1 (s : ByteArray) (hs : s.size ≤ 140737488355000) (i : Nat) (hi : i < s.size) (acc : List UInt8) (r : ByteArray) :
    ∀ (d j : Nat), j = i + 1 + (10 - d) → d ≤ 10 → j ≤ s.size →
    (Ev (fun k => stoleref1_Decode.j2 k s (nums acc) (i : Int) ((j + run d (s.data.toList.drop j) : Nat) : Int)) r) →
    Ev (fun k => stoleref1_Decode.l1 k s (nums acc) (i : Int) (j : Int)) r := by
  intro d
  induction d with
  | zero =>
    intro j hj _ hjs h
    refine Ev.step (f := fun k => _) (fun k => by rw [stoleref1_Decode.l1]) ?_
    have hw : wrap64 ((i : Int) + 11) = ((i + 11 : Nat) : Int) := by unfold wrap64; omega
    rw [hw]
    have h' : Ev (fun k => stoleref1_Decode.j2 k s (nums acc) (i : Int) (j : Int)) r := h
    by_cases h1 : j < s.size
    · exact Ev.pos (by omega) (Ev.neg (by omega) h')
    · exact Ev.neg (by omega) h'
  | succ d ih =>
    intro j hj hd hjs h
    refine Ev.step (f := fun k => _) (fun k => by rw [stoleref1_Decode.l1]) ?_
    have hw : wrap64 ((i : Int) + 11) = ((i + 11 : Nat) : Int) := by unfold wrap64; omega
    rw [hw]
    by_cases h1 : j < s.size
    · have hil : j < s.data.toList.length := by rw [data_length]; exact h1
      obtain ⟨c, l, hcl⟩ : ∃ c l, s.data.toList.drop j = c :: l := ⟨_, _, List.drop_eq_getElem_cons hil⟩
      have hnx := drop_next s j hcl
      rw [bt_drop s j hcl, wrap_one j (by omega)]
      rw [hcl, run_cons] at h
      refine Ev.pos (by omega) (Ev.pos (by omega) (Ev.pos (by omega) (Ev.bindC (letter_b _ c.toNat_lt) ?_)))
      have hgo : okN c.toNat = true → Ev (fun k => stoleref1_Decode.l1 k s (nums acc) (i : Int) ((j + 1 : Nat) : Int)) r := by
        intro hok
        rw [if_pos hok] at h
        refine ih (j + 1) (by omega) (by omega) (by omega) ?_
        rw [hnx]
        rwa [show j + 1 + run d l = j + (run d l + 1) from by omega]
      by_cases ha : 97 ≤ lowN c.toNat ∧ lowN c.toNat ≤ 122
      · exact Ev.pos (decide_eq_true ha) (hgo (by unfold okN; rw [decide_eq_true ha]; simp))
      refine Ev.neg (by rw [decide_eq_true_iff]; exact ha) (Ev.bindC (digit_b _ c.toNat_lt) ?_)
      by_cases hb : 48 ≤ c.toNat ∧ c.toNat ≤ 57
      · exact Ev.pos (decide_eq_true hb) (hgo (by unfold okN; rw [decide_eq_true hb]; simp))
      refine Ev.neg (by rw [decide_eq_true_iff]; exact hb) ?_
      by_cases hc : c.toNat = 35
      · exact Ev.pos (by omega) (hgo (by unfold okN; rw [decide_eq_true hc]; simp))
      · refine Ev.neg (by omega) ?_
        have hno : okN c.toNat = false := by unfold okN; rw [decide_eq_false ha, decide_eq_false hb, decide_eq_false hc]; rfl
        rw [if_neg (by rw [hno]; decide)] at h
        exact h
    · have hn : s.data.toList.drop j = [] := List.drop_eq_nil_of_le (by rw [data_length]; omega)
      rw [hn] at h
      exact Ev.neg (by omega) h

theorem refDec_ev (s : ByteArray) (hs : s.size ≤ 140737488355000) : ∀ (d i : Nat) (acc : List UInt8), s.size - i = d → i ≤ s.size → acc.length + (s.size - i) ≤ s.size →
    Ev (fun k => stoleref1_Decode.l0 k s (nums acc) (i : Int)) ⟨(acc ++ decL (s.data.toList.drop i)).toArray⟩ := by
  intro d
  induction d using Nat.strongRecOn with
  | _ d ih =>
    intro i acc hd hi hlen
    refine Ev.step (f := fun k => _) (fun k => by rw [stoleref1_Decode.l0]) ?_
    by_cases he : i = s.size
    · refine Ev.neg (by omega) (Ev.cast (Ev.now _) ?_)
      have : s.data.toList.drop i = [] := List.drop_eq_nil_of_le (by rw [data_length]; omega)
      rw [this, decL_nil, List.append_nil]
      exact strOfNums_bytes acc
    refine Ev.pos (by omega) ?_
    have hil : i < s.data.toList.length := by rw [data_length]; omega
    obtain ⟨c, l, hcl⟩ : ∃ c l, s.data.toList.drop i = c :: l := ⟨_, _, List.drop_eq_getElem_cons hil⟩
    have hnx := drop_next s i hcl
    have hbt := bt_drop s i hcl
    have hnl := nums_len acc
    have hll : l.length = s.size - (i + 1) := by rw [← hnx, List.length_drop, data_length]
    rw [wrap_one i (by omega)]
    refine dec_l1 s hs i (by omega) acc _ 10 (i + 1) (by omega) (by omega) (by omega) ?_
    rw [hnx]
    -- a byte that stays
    have stay : decL (c :: l) = c :: decL l → Ev (fun k => if 0 ≤ (i : Int) then (if (i : Int) < (s.size : Int) then (if (nums acc).length < 140737488355328 then (stoleref1_Decode.l0 k s (nums acc ++ [bt s (i : Int)]) (wrap64 ((i : Int) + 1))) else none) else none) else none) ⟨(acc ++ decL (s.data.toList.drop i)).toArray⟩ := by
      intro hst
      refine Ev.pos (by omega) (Ev.pos (by omega) (Ev.pos (by omega) ?_))
      rw [hbt, wrap_one i (by omega), show nums acc ++ [((c.toNat : Nat) : Int)] = nums (acc ++ [c]) from by rw [nums_append]; rfl]
      refine Ev.cast (ih (s.size - (i + 1)) (by omega) (i + 1) (acc ++ [c]) rfl (by omega) (by rw [List.length_append]; simp only [List.length_cons, List.length_nil]; omega)) ?_
      rw [hnx, hcl, hst, List.append_assoc]; rfl
    have j3f : decL (c :: l) = c :: decL l → Ev (fun k => stoleref1_Decode.j3 k s (nums acc) (i : Int) ((i + 1 + run 10 l : Nat) : Int) false) ⟨(acc ++ decL (s.data.toList.drop i)).toArray⟩ := fun h =>
      Ev.step (f := fun k => _) (fun k => by rw [stoleref1_Decode.j3]) (Ev.neg (by decide) (stay h))
    have hrun := run_le 10 l
    refine Ev.step (f := fun k => _) (fun k => by rw [stoleref1_Decode.j2]) ?_
    rw [hbt]
    refine Ev.pos (by omega) (Ev.pos (by omega) ?_)
    by_cases h38 : c.toNat = 38
    · obtain rfl := byte_eq h38 (by decide)
      have hrd := ref_doc l
      refine Ev.pos (by rfl) ?_
      by_cases hend : i + 1 + run 10 l < s.size
      · have hil2 : i + 1 + run 10 l < s.data.toList.length := by rw [data_length]; omega
        obtain ⟨e, m, hem⟩ : ∃ e m, s.data.toList.drop (i + 1 + run 10 l) = e :: m := ⟨_, _, List.drop_eq_getElem_cons hil2⟩
        have hde : l.drop (run 10 l) = e :: m := by
          have h := hem
          rw [← List.drop_drop, hnx] at h
          exact h
        refine Ev.pos (by omega) (Ev.pos (by omega) ?_)
        rw [bt_drop s _ hem]
        by_cases h59 : e.toNat = 59
        · obtain rfl := byte_eq h59 (by decide)
          have hda : docAt l = (meantL (l.take (run 10 l))).map fun x => (x, run 10 l + 2) := by
            unfold docAt; rw [if_pos (by rw [hde]; rfl)]
          rw [show ((((UInt8.ofNat 59).toNat : Nat) : Int) == 59) = true from rfl]
          refine Ev.step (f := fun k => _) (fun k => by rw [stoleref1_Decode.j3]) (Ev.pos rfl ?_)
          have hcut : (s.extract ((i + 1 : Nat) : Int).toNat ((i + 1 + run 10 l : Nat) : Int).toNat).data.toList = l.take (run 10 l) := by
            rw [Int.toNat_natCast, Int.toNat_natCast, Lib.extract_data, hnx]; congr 1; omega
          have hr := reference_ok (s.extract ((i + 1 : Nat) : Int).toNat ((i + 1 + run 10 l : Nat) : Int).toNat)
          rw [hcut] at hr
          rw [wrap_one i (by omega)]
          refine Ev.pos (by omega) (Ev.pos (by omega) (Ev.pos (by omega) (Ev.bind hr ?_)))
          cases hm : meantL (l.take (run 10 l)) with
          | none =>
            refine Ev.neg (by decide) ?_
            have := stay (decL_none _ _ (by rw [show (UInt8.ofNat 38 :: l) = 38 :: l from rfl, hrd, hda, hm]; rfl))
            rwa [wrap_one i (by omega)] at this
          | some x =>
            have href : refAt (38 :: l) = some (x, run 10 l + 2) := by rw [hrd, hda, hm]; rfl
            have hxl := (refAt_len href).1
            have hxs : (⟨x.toArray⟩ : ByteArray).size = x.length := by show x.toArray.size = _; simp
            refine Ev.pos rfl (Ev.pos ?_ ?_)
            · show (nums acc).length + (⟨x.toArray⟩ : ByteArray).size < _
              rw [hxs]; omega
            · rw [wrap_one _ (by omega)]
              show Ev (fun k => stoleref1_Decode.l0 k s (nums acc ++ nums x) _) _
              rw [← nums_append]
              refine Ev.cast (ih (s.size - (i + 1 + run 10 l + 1)) (by omega) (i + 1 + run 10 l + 1) (acc ++ x) rfl (by omega) (by rw [List.length_append]; omega)) ?_
              have hd2 : decL (38 :: l) = x ++ decL (l.drop (run 10 l + 1)) := decL_some l x (run 10 l + 1) href
              rw [hcl, show (UInt8.ofNat 38 :: l) = 38 :: l from rfl, hd2, ← hnx, List.drop_drop, List.append_assoc]
              rfl
        · rw [show ((e.toNat : Int) == 59) = false from by rw [beq_eq_false_iff_ne]; omega]
          refine j3f (decL_none _ _ ?_)
          rw [show (UInt8.ofNat 38 :: l) = 38 :: l from rfl, hrd]
          unfold docAt
          rw [if_neg (by rw [hde]; intro h; injection h with h; apply h59; rw [h]; rfl)]
      · refine Ev.neg (by omega) (j3f (decL_none _ _ ?_))
        rw [show (UInt8.ofNat 38 :: l) = 38 :: l from rfl, hrd]
        unfold docAt
        rw [if_neg]
        rw [List.drop_eq_nil_of_le (by omega)]
        intro h; cases h
    · refine Ev.neg (by omega) (j3f (decL_plain _ _ (fun e => h38 (by rw [e]; rfl))))
theorem refDec_ok (s : ByteArray) (hs : s.size ≤ 140737488355000) : Ev (fun k => stoleref1_Decode.f k s) (decS s) :=
  refDec_ev s hs s.size 0 [] rfl (by omega) (by simp)
end Go.Proofs.YtfabijpafbhdbaaDoor.Pure
