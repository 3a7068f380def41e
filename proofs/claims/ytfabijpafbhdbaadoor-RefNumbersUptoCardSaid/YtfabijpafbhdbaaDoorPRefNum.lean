/- RefNumbers: the plain law. -/
import Derived.Test.YtfabijpafbhdbaaDoorPRefs
namespace Go.Proofs.YtfabijpafbhdbaaDoor.Pure
open Go.RowKit Go.Proofs.YtfabijpafbhdbaaDoor.XR Go.Proofs.YtfabijpafbhdbaaDoorW.PrintWords Go.Proofs.YtfabijpafbhdbaaDoorW.PrintLast Go.Proofs.YtfabijpafbhdbaaDoor.Base Go.Proofs.YtfabijpafbhdbaaDoor.Ext Go.Proofs.YtfabijpafbhdbaaDoor.Utf Go.Proofs.YtfabijpafbhdbaaDoor.Refs

theorem numGo_cons' (c : UInt8) (l : List UInt8) (base x : Nat) : numGo (c :: l) base x = if base ≤ digN c.toNat base then none else numGo l base (x * base + digN c.toNat base) := rfl
/-- A reference that means something is what it means. -/
theorem ref_dec (w x t : List UInt8) (hm : meantL w = some x) : decL (38 :: (w ++ 59 :: t)) = x ++ decL t := by
  obtain ⟨hok, hw⟩ := meantL_ok hm
  have h59 : (59 : UInt8) ∉ w := fun h => absurd (hok 59 h) (by decide)
  have hib : Lib.indexByte ((38 :: (w ++ 59 :: t)).take 11) 59 = ((w.length + 1 : Nat) : Int) := by
    have h1 : (38 :: (w ++ 59 :: t)).take 11 = (38 :: w) ++ 59 :: t.take (9 - w.length) := by
      have : ((38 : UInt8) :: (w ++ 59 :: t)) = (38 :: w) ++ 59 :: t := rfl
      rw [this, List.take_append, List.take_of_length_le (by simp only [List.length_cons]; omega)]
      have : 11 - (38 :: w).length = (9 - w.length) + 1 := by simp only [List.length_cons]; omega
      rw [this, List.take_succ_cons]
    rw [h1, indexByte_at _ _ _ (by
      intro h
      rcases List.mem_cons.1 h with h | h
      · cases h
      · exact h59 h)]
    rfl
  have hr : refAt (38 :: (w ++ 59 :: t)) = some (x, (w.length + 1) + 1) := by
    unfold refAt
    rw [hib, if_pos (by omega)]
    have : ((38 :: (w ++ 59 :: t)).take ((w.length + 1 : Nat) : Int).toNat).drop 1 = w := by
      rw [Int.toNat_natCast, List.take_succ_cons]
      show (w ++ 59 :: t).take w.length = w
      rw [List.take_left]
    rw [this, hm]; rfl
  rw [decL_some _ _ _ hr]
  have : (w ++ 59 :: t).drop (w.length + 1) = t := by
    rw [List.drop_append, List.drop_eq_nil_of_le (by omega)]
    simp
  rw [this]

def HX : ByteArray := ⟨#[48, 49, 50, 51, 52, 53, 54, 55, 56, 57, 97, 66, 99, 68, 101, 70]⟩
theorem hx_digit : ∀ d : Nat, d < 16 → digN (bt HX (d : Int)).toNat 16 = d ∧ (((UInt8.ofNat (bt HX (d : Int)).toNat).toNat : Nat) : Int) = bt HX (d : Int) := by decide +kernel
def hxB (d : Nat) : UInt8 := UInt8.ofNat (bt HX (d : Int)).toNat
theorem hxB_dig (d : Nat) (h : d < 16) : digN (hxB d).toNat 16 = d := by
  obtain ⟨h1, h2⟩ := hx_digit d h
  unfold hxB
  rw [show (UInt8.ofNat (bt HX (d : Int)).toNat).toNat = (bt HX (d : Int)).toNat from by omega, h1]
theorem and15 (n : Nat) : Go.bits .and .i64 (n : Int) 15 = ((n % 16 : Nat) : Int) := by
  rw [show (15 : Int) = 2 ^ 4 - 1 from rfl, and_mask _ 4 (by decide)]; omega

/-- What the digits' text is, at the loop's end. -/
def IsHex (K : Nat) (h : ByteArray) : Prop := numGo h.data.toList 16 0 = some K ∧ 1 ≤ h.size ∧ h.size ≤ 6
theorem wrap_u64 (n : Nat) (h : n < 18446744073709551616) : IntKind.u64.wrap (n : Int) = (n : Int) := by
  rw [IntKind.wrap_u64]; omega

theorem dec_l0 (K : Nat) (hK : K < 2097152) : ∀ (d j y : Nat) (l : List UInt8), 8 - j = d → l.length = j → j ≤ 7 → y * 10 ^ j ≤ K → (y = 0 → 1 ≤ j ∨ K = 0) → numGo l 10 y = some K →
    ∃ D : List UInt8, numGo D 10 0 = some K ∧ 1 ≤ D.length ∧ D.length ≤ 7 ∧ Ev (fun k => stoleref0_Decimal.l0 k (K : Int) (y : Int) (nums l)) ⟨D.toArray⟩ := by
  intro d
  induction d with
  | zero => intro j y l hd hl hj; omega
  | succ d ih =>
    intro j y l hd hl hj hy h0 hn
    have hyK : y ≤ K := Nat.le_trans (Nat.le_mul_of_pos_right y (Nat.pow_pos (by decide))) hy
    have hchar : (IntKind.u64.wrap (48 + (Int.tmod (y : Int) 10))) % 256 = (((UInt8.ofNat (48 + y % 10)).toNat : Nat) : Int) := by
      rw [Int.tmod_eq_emod_of_nonneg (by omega), show (48 : Int) + (y : Int) % 10 = ((48 + y % 10 : Nat) : Int) from by omega, wrap_u64 _ (by omega), ofNat_nat _ (by omega)]; omega
    have hdiv : IntKind.u64.wrap (Int.tdiv (y : Int) 10) = ((y / 10 : Nat) : Int) := by
      rw [Int.tdiv_eq_ediv_of_nonneg (by omega), show (y : Int) / 10 = ((y / 10 : Nat) : Int) from by omega, wrap_u64 _ (by omega)]
    have hdig : digN (UInt8.ofNat (48 + y % 10)).toNat 10 = y % 10 := by
      rw [ofNat_nat _ (by omega)]
      have : ∀ n : Nat, n < 10 → digN (48 + n) 10 = n := by decide
      exact this _ (by omega)
    have hgo : numGo (UInt8.ofNat (48 + y % 10) :: l) 10 (y / 10) = some K := by
      rw [numGo_cons', hdig, if_neg (by omega), show y / 10 * 10 + y % 10 = y from by omega]; exact hn
    have hnl := nums_len l
    by_cases hz : y = 0
    · subst hz
      rcases Nat.eq_zero_or_pos j with hj0 | hj0
      · have hK0 : K = 0 := by rcases h0 rfl with h | h <;> omega
        have hl0 : l = [] := List.eq_nil_of_length_eq_zero (by omega)
        subst hl0 hK0 hj0
        obtain ⟨D, h1, h2, h3, h4⟩ := ih 1 0 [48] (by omega) rfl (by omega) (by omega) (fun _ => .inl (Nat.le_refl _)) (by decide)
        refine ⟨D, h1, h2, h3, ?_⟩
        refine Ev.step (f := fun k => _) (fun k => by rw [stoleref0_Decimal.l0]) ?_
        refine Ev.neg (by decide) (Ev.pos (by decide) (Ev.bindC rfl (Ev.pos (by decide) ?_)))
        exact h4
      · refine ⟨l, hn, by omega, by omega, ?_⟩
        refine Ev.step (f := fun k => _) (fun k => by rw [stoleref0_Decimal.l0]) ?_
        refine Ev.neg (by omega) (Ev.neg (by omega) (Ev.neg (by omega) (Ev.cast (Ev.now _) ?_)))
        exact strOfNums_bytes l
    · have hj7 : j < 7 := by
        rcases Nat.lt_or_ge j 7 with h | h
        · exact h
        · have : 10 ^ 7 ≤ 10 ^ j := Nat.pow_le_pow_right (by decide) h
          have : 1 * 10 ^ j ≤ y * 10 ^ j := Nat.mul_le_mul_right _ (by omega)
          omega
      have hstep : y / 10 * 10 ^ (j + 1) ≤ K := by
        rw [Nat.pow_succ, Nat.mul_comm (10 ^ j) 10, ← Nat.mul_assoc]
        exact Nat.le_trans (Nat.mul_le_mul_right _ (by omega)) hy
      obtain ⟨D, h1, h2, h3, h4⟩ := ih (j + 1) (y / 10) (UInt8.ofNat (48 + y % 10) :: l) (by omega) (by simp [hl]) (by omega) hstep (fun _ => .inl (by omega)) hgo
      refine ⟨D, h1, h2, h3, ?_⟩
      refine Ev.step (f := fun k => _) (fun k => by rw [stoleref0_Decimal.l0]) ?_
      refine Ev.pos (by omega) ?_
      rw [hchar, hdiv]
      refine Ev.bindC rfl (Ev.pos (by simp only [List.length_cons, List.length_nil]; omega) ?_)
      exact h4
theorem decimal_ok (K : Nat) (hK : K < 2097152) : ∃ D : List UInt8, numGo D 10 0 = some K ∧ 1 ≤ D.length ∧ D.length ≤ 7 ∧ Ev (fun k => stoleref0_Decimal.f k (K : Int)) ⟨D.toArray⟩ := by
  obtain ⟨D, h1, h2, h3, h4⟩ := dec_l0 K hK 8 0 K [] (by omega) rfl (by omega) (by omega) (fun h => .inr h) rfl
  refine ⟨D, h1, h2, h3, ?_⟩
  unfold stoleref0_Decimal.f
  refine Ev.neg (by omega) (Ev.step (f := fun k => _) (fun k => by rw [stoleref0_Decimal.j0]) ?_)
  rw [wrap_u64 K (by omega)]
  exact h4

theorem numL_some {l : List UInt8} {b m K : Nat} (h : numGo l b 0 = some K) (h1 : 1 ≤ l.length) (h2 : l.length ≤ m) : numL l b m = some (Utf8.encode ((runeOf K : Nat) : Int)).data.toList := by
  unfold numL
  rw [if_neg, h]
  · rfl
  · rintro (e | e)
    · rw [e] at h1; simp at h1
    · omega
theorem meant_x (l : List UInt8) (c : UInt8) (hc : c = 120 ∨ c = 88) : meantL (35 :: c :: l) = numL l 16 6 := by
  unfold meantL
  rw [if_pos]
  · rfl
  · rcases hc with rfl | rfl
    · exact .inl ((prefix_cons ..).2 ⟨rfl, (prefix_cons ..).2 ⟨rfl, prefix_nil _⟩⟩)
    · exact .inr ((prefix_cons ..).2 ⟨rfl, (prefix_cons ..).2 ⟨rfl, prefix_nil _⟩⟩)
theorem dig120 : ∀ n : Nat, n < 256 → lowN n = 120 → 10 ≤ digN n 10 := by decide +kernel
theorem meant_dec {l : List UInt8} {K : Nat} (h : numGo l 10 0 = some K) (h1 : 1 ≤ l.length) (h2 : l.length ≤ 7) : meantL (35 :: l) = some (Utf8.encode ((runeOf K : Nat) : Int)).data.toList := by
  rw [meant_number]
  cases l with
  | nil => simp at h1
  | cons c l =>
    rw [numberN_cons, if_neg, ← numL_N]
    · exact numL_some h h1 h2
    · intro e
      rw [numGo_cons', if_pos (dig120 _ c.toNat_lt e)] at h
      cases h
theorem num_ok16 {l : List UInt8} {x K : Nat} (h : numGo l 16 x = some K) : (59 : UInt8) ∉ l := fun hm => absurd (numGo_ok 16 dig_ok l x K h 59 hm) (by decide)
theorem num_ok10 {l : List UInt8} {x K : Nat} (h : numGo l 10 x = some K) : (59 : UInt8) ∉ l := fun hm => absurd (numGo_ok 10 dig_ok10 l x K h 59 hm) (by decide)
theorem odd_stays : refs_Decode.f (⟨#[38, 35, 59, 38, 35, 120, 59, 38, 59]⟩ : ByteArray) = some ⟨#[38, 35, 59, 38, 35, 120, 59, 38, 59]⟩ := by decide +kernel

set_option maxHeartbeats 1000000 in
theorem num_end (K : Nat) (hK : K < 2097152) (t h : ByteArray) (ht : t.size ≤ 1048576) (hh : IsHex K h) :
    Ev (fun k => stolelaw2_RefNumbers.l0 k t (K : Int) h 0) true := by
  obtain ⟨hg, h1, h6⟩ := hh
  obtain ⟨D, hD, d1, d7, hDec⟩ := decimal_ok K hK
  have hlh : h.data.toList.length = h.size := data_length h
  have hDs : (⟨D.toArray⟩ : ByteArray).size = D.length := by show D.toArray.size = _; simp
  have hw : ∃ W : List UInt8, (Utf8.encode ((runeOf K : Nat) : Int)).data.toList = W ∧ W.length ≤ 4 := by
    refine ⟨_, rfl, ?_⟩
    rw [data_length]; exact encode_len _
  obtain ⟨W, hW, hW4⟩ := hw
  have hrune := rune_ok K
  rw [hW] at hrune
  have hsW : strOfNums (nums W) = ⟨W.toArray⟩ := strOfNums_bytes W
  have hWs : (⟨W.toArray⟩ : ByteArray).size = W.length := by show W.toArray.size = _; simp
  have mx : meantL (35 :: 120 :: h.data.toList) = some W := by rw [meant_x _ _ (.inl rfl), numL_some hg (by omega) (by omega), hW]
  have mX : meantL (35 :: 88 :: h.data.toList) = some W := by rw [meant_x _ _ (.inr rfl), numL_some hg (by omega) (by omega), hW]
  have md : meantL (35 :: D) = some W := by rw [meant_dec hD d1 d7, hW]
  have e1 : (decS (((⟨#[38, 35]⟩ : ByteArray) ++ ⟨D.toArray⟩) ++ (⟨#[59]⟩ : ByteArray))).data.toList = W := by
    rw [decS_data, data_append, data_append]
    have := ref_dec (35 :: D) W [] md
    rw [decL_nil, List.append_nil] at this
    exact this
  have e2 : (decS (((⟨#[38, 35, 120]⟩ : ByteArray) ++ h) ++ (⟨#[59]⟩ : ByteArray))).data.toList = W := by
    rw [decS_data, data_append, data_append]
    have := ref_dec (35 :: 120 :: h.data.toList) W [] mx
    rw [decL_nil, List.append_nil] at this
    exact this
  have e3 : (decS (((⟨#[38, 35, 88]⟩ : ByteArray) ++ h) ++ (⟨#[59]⟩ : ByteArray))).data.toList = W := by
    rw [decS_data, data_append, data_append]
    have := ref_dec (35 :: 88 :: h.data.toList) W [] mX
    rw [decL_nil, List.append_nil] at this
    exact this
  have e4 : (decS ((((⟨#[38, 35]⟩ : ByteArray) ++ ⟨D.toArray⟩) ++ (⟨#[59]⟩ : ByteArray)) ++ (⟨#[38, 108, 116, 59]⟩ : ByteArray))).data.toList = W ++ [60] := by
    rw [decS_data, data_append, data_append, data_append, List.append_assoc]
    have := ref_dec (35 :: D) W [38, 108, 116, 59] md
    rw [show decL [38, 108, 116, 59] = [60] from by decide +kernel] at this
    exact this
  have e5 : (decS ((⟨#[38, 35, 120]⟩ : ByteArray) ++ h)).data.toList = 38 :: 35 :: 120 :: h.data.toList := by
    rw [decS_data, data_append]
    refine dec_plain _ ?_
    intro hm
    rcases List.mem_append.1 hm with hm | hm
    · revert hm; decide
    · exact num_ok16 hg hm
  have s1 : (((⟨#[38, 35]⟩ : ByteArray) ++ ⟨D.toArray⟩) ++ (⟨#[59]⟩ : ByteArray)).size = 2 + D.length + 1 := by rw [size_append, size_append, hDs]; rfl
  have s2 : (((⟨#[38, 35, 120]⟩ : ByteArray) ++ h) ++ (⟨#[59]⟩ : ByteArray)).size = 3 + h.size + 1 := by rw [size_append, size_append]; rfl
  have s3 : (((⟨#[38, 35, 88]⟩ : ByteArray) ++ h) ++ (⟨#[59]⟩ : ByteArray)).size = 3 + h.size + 1 := by rw [size_append, size_append]; rfl
  have s4 : ((((⟨#[38, 35]⟩ : ByteArray) ++ ⟨D.toArray⟩) ++ (⟨#[59]⟩ : ByteArray)) ++ (⟨#[38, 108, 116, 59]⟩ : ByteArray)).size = 2 + D.length + 1 + 4 := by rw [size_append, s1]; rfl
  have s5 : ((⟨#[38, 35, 120]⟩ : ByteArray) ++ h).size = 3 + h.size := by rw [size_append]; rfl
  refine Ev.step (f := fun k => _) (fun k => by rw [stolelaw2_RefNumbers.l0]) ?_
  refine Ev.neg (by decide) (Ev.neg (fun e => by rw [list_nil] at e; rw [e] at hlh; simp at hlh; omega) ?_)
  refine Ev.bind hrune (Ev.bind hDec ?_)
  rw [hDs, hsW]
  refine Ev.pos (by omega) (Ev.pos (by omega) (Ev.bindC (dec_ok _ (by omega)) (Ev.pos (by omega) (Ev.pos (by omega) (Ev.bindC (dec_ok _ (by omega)) (Ev.bindC (dec_ok _ (by omega)) ?_))))))
  refine Ev.pos (by rw [list_eq, list_eq, e1]) (Ev.pos (by rw [list_eq, list_eq, e2]) (Ev.pos (by rw [list_eq, list_eq, e3]) (Ev.bind hDec ?_)))
  rw [hDs, hWs]
  refine Ev.pos (by omega) (Ev.pos (by omega) (Ev.pos (by omega) (Ev.bindC (dec_ok _ (by omega)) (Ev.pos (by omega) (Ev.pos (by rw [list_eq, list_eq, e4, data_append]) (Ev.bindC (dec_ok _ (by omega)) (Ev.pos (by rw [list_eq, list_eq, e5, data_append]; rfl) (Ev.bindC odd_stays (Ev.pos (by rw [list_eq]) ?_)))))))))
  by_cases hnt : t.toList = ([] : List UInt8)
  · exact Ev.pos hnt (Ev.now true)
  · refine Ev.neg hnt ?_
    have het := encS_size t
    have hns := normS_le t
    have s6 : ((⟨#[60]⟩ : ByteArray) ++ encS t).size = 1 + (encS t).size := by rw [size_append]; rfl
    have e6 : (decS ((⟨#[60]⟩ : ByteArray) ++ encS t)).data.toList = 60 :: normL t.data.toList := by
      rw [decS_data, data_append, encS_data]
      show decL (60 :: encL (normL t.data.toList)) = _
      rw [decL_plain _ _ (by decide), dec_enc']
    refine Ev.bindC (enc_ok t (by omega)) (Ev.pos (by omega) (Ev.bindC (dec_ok _ (by omega)) (Ev.bind (refNorm_ok t (by omega)) (Ev.pos (by omega) (Ev.cast (Ev.now _) ?_)))))
    rw [list_eq, list_eq, e6, data_append, beq_iff_eq]; rfl

theorem num_l0 (K : Nat) (hK : K < 2097152) (t : ByteArray) (ht : t.size ≤ 1048576) : ∀ (d j y : Nat) (h : ByteArray), 7 - j = d → h.size = j → j ≤ 6 → y * 16 ^ j ≤ K → (y = 0 → 1 ≤ j ∨ K = 0) → numGo h.data.toList 16 y = some K →
    Ev (fun k => stolelaw2_RefNumbers.l0 k t (K : Int) h (y : Int)) true := by
  intro d
  induction d with
  | zero => intro j y h hd hl hj; omega
  | succ d ih =>
    intro j y h hd hl hj hy h0 hn
    have hlh : h.data.toList.length = h.size := data_length h
    have hgo : numGo (hxB (y % 16) :: h.data.toList) 16 (y / 16) = some K := by
      rw [numGo_cons', hxB_dig _ (by omega), if_neg (by omega), show y / 16 * 16 + y % 16 = y from by omega]; exact hn
    have hbt : ([bt HX ((y % 16 : Nat) : Int)] : List Int) = nums [hxB (y % 16)] := by
      show _ = [(((UInt8.ofNat (bt HX ((y % 16 : Nat) : Int)).toNat).toNat : Nat) : Int)]
      rw [(hx_digit (y % 16) (by omega)).2]
    have hstr : strOfNums (nums [hxB (y % 16)]) = ⟨#[hxB (y % 16)]⟩ := strOfNums_bytes [hxB (y % 16)]
    have hdat : ((⟨#[hxB (y % 16)]⟩ : ByteArray) ++ h).data.toList = hxB (y % 16) :: h.data.toList := by rw [data_append]; rfl
    have hsz : ((⟨#[hxB (y % 16)]⟩ : ByteArray) ++ h).size = 1 + h.size := by rw [size_append]; rfl
    have one : (⟨#[hxB (y % 16)]⟩ : ByteArray).size = 1 := rfl
    have next : j < 6 → y / 16 * 16 ^ (j + 1) ≤ K → Ev (fun k => if 0 ≤ (Go.bits .and .i64 (y : Int) 15) then (if (Go.bits .and .i64 (y : Int) 15) < 16 then ((some (([bt HX (Go.bits .and .i64 (y : Int) 15)] : List Int) : List Int)).bind fun y217 => (if (strOfNums y217).size + h.size ≤ 9223372036854775807 then (stolelaw2_RefNumbers.l0 k t (K : Int) ((strOfNums y217) ++ h) ((y : Int) / 16)) else (none))) else (none)) else (none)) true := by
      intro hj6 hst
      rw [and15]
      refine Ev.pos (by omega) (Ev.pos (by omega) (Ev.bindC rfl ?_))
      rw [hbt, hstr, one, show (y : Int) / 16 = ((y / 16 : Nat) : Int) from by omega]
      refine Ev.pos (by omega) ?_
      exact ih (j + 1) (y / 16) _ (by omega) (by omega) (by omega) hst (fun _ => .inl (by omega)) (by rw [hdat]; exact hgo)
    by_cases hz : y = 0
    · subst hz
      rcases Nat.eq_zero_or_pos j with hj0 | hj0
      · refine Ev.step (f := fun k => _) (fun k => by rw [stolelaw2_RefNumbers.l0]) ?_
        refine Ev.neg (by decide) (Ev.pos (list_nil.2 (List.eq_nil_of_length_eq_zero (by omega))) ?_)
        exact next (by omega) (by simp)
      · exact num_end K hK t h ht ⟨hn, by omega, by omega⟩
    · have hj6 : j < 6 := by
        rcases Nat.lt_or_ge j 6 with h | h
        · exact h
        · have : 16 ^ 6 ≤ 16 ^ j := Nat.pow_le_pow_right (by decide) h
          have : 1 * 16 ^ j ≤ y * 16 ^ j := Nat.mul_le_mul_right _ (by omega)
          omega
      have hstep : y / 16 * 16 ^ (j + 1) ≤ K := by
        rw [Nat.pow_succ, Nat.mul_comm (16 ^ j) 16, ← Nat.mul_assoc]
        exact Nat.le_trans (Nat.mul_le_mul_right _ (by omega)) hy
      refine Ev.step (f := fun k => _) (fun k => by rw [stolelaw2_RefNumbers.l0]) ?_
      exact Ev.pos (by omega) (next hj6 hstep)

theorem RefNumbers (x : Int) (t : ByteArray) (_ : (Lit.int .i64 x).wf = true) (_ : t.size ≤ 140737488351232) (hb : t.size ≤ 1048576) : ∃ k, stolelaw2_RefNumbers.f k x t = some true := by
  refine Ev.rounds ?_
  unfold stolelaw2_RefNumbers.f
  refine Ev.bindC awake2 (Ev.pos rfl ?_)
  rw [show (2097151 : Int) = 2 ^ 21 - 1 from rfl, and_mask _ 21 (by decide)]
  obtain ⟨K, hK⟩ : ∃ K : Nat, x % 2 ^ 21 = (K : Int) := ⟨(x % 2 ^ 21).toNat, by omega⟩
  rw [hK]
  exact num_l0 K (by omega) t hb 7 0 K _ rfl rfl (by omega) (by omega) (fun h => .inr h) rfl
end Go.Proofs.YtfabijpafbhdbaaDoor.Pure
