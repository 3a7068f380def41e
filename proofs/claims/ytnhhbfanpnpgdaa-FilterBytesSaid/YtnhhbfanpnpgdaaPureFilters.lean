/- Filters: css.Filter is the document's filter, of any text: the printed functions' plain law. -/
import Derived.Test.YtnhhbfanpnpgdaaXF2
import Derived.Test.YtnhhbfanpnpgdaaBase
namespace Go.Proofs.Ytnhhbfanpnpgdaa.Pure
open Go.RowKit Go.Proofs.Ytnhhbfanpnpgdaa.XF Go.Proofs.YtnhhbfanpnpgdaaW.PrintWords Go.Proofs.YtnhhbfanpnpgdaaW.PrintLast Go.Proofs.Ytnhhbfanpnpgdaa.Base Go.Proofs.Ytnhhbfanpnpgdaa.Ext

def letN (n : Nat) : Bool := (65 ≤ n && n ≤ 90) || (97 ≤ n && n ≤ 122)
def digN (n : Nat) : Bool := 48 ≤ n && n ≤ 57
def sgnN (n : Nat) : Bool := n == 32 || n == 35 || n == 37 || n == 46 || n == 44 || n == 45
def okN (n : Nat) : Bool := letN n || digN n || sgnN n
def okB (b : UInt8) : Bool := okN b.toNat
def Z : ByteArray := ⟨#[90, 103, 111, 116, 109, 112, 108, 90]⟩
def filt (s : ByteArray) : ByteArray := if s.data.toList.all okB then s else Z

theorem letter_b : ∀ n : Nat, n < 256 → utf_Letter.f (n : Int) = some (letN n) := by decide +kernel
theorem digit_b : ∀ n : Nat, n < 256 → utf_Digit.f (n : Int) = some (digN n) := by decide +kernel
theorem index_b : ∀ n : Nat, n < 256 → (strings_IndexByte.f (⟨#[32, 35, 37, 46, 44, 45]⟩ : ByteArray) (n : Int)).map (fun t => decide (t < 0)) = some (!sgnN n) := by decide +kernel
theorem letter_r : ∀ n : Nat, n < 256 → stoleref1_Letter.f (n : Int) = some (letN n) := by decide +kernel
theorem digit_r : ∀ n : Nat, n < 256 → stoleref1_Digit.f (n : Int) = some (digN n) := by decide +kernel
theorem in_r : ∀ n : Nat, n < 256 → stoleref1_in.f 7 (n : Int) (⟨#[32, 35, 37, 46, 44, 45]⟩ : ByteArray) = some (sgnN n) := by decide +kernel
theorem in_ev (n : Nat) (h : n < 256) : Ev (fun k => stoleref1_in.f k (n : Int) (⟨#[32, 35, 37, 46, 44, 45]⟩ : ByteArray)) (sgnN n) :=
  Ev.of (fun k => stoleref1_in.mono _ _ k) (in_r n h)

theorem css_loop (s : ByteArray) (hs : s.size ≤ 4611686018427387904) : ∀ (l : List UInt8) (i : Nat), s.data.toList.drop i = l → i ≤ s.size →
    Ev (fun k => css_Filter.l0 k s (s.size : Int) (i : Int)) (if l.all okB then s else Z) := by
  intro l
  induction l with
  | nil =>
    intro i hd hi
    have := drop_end s i hi hd
    refine Ev.step (f := fun k => _) (fun k => by rw [css_Filter.l0]) ?_
    exact Ev.neg (by omega) (Ev.now s)
  | cons b l ih =>
    intro i hd hi
    have hlt := drop_lt s i hd
    have hb := bt_drop s i hd
    have hb2 := byte_lt b
    have hn := drop_next s i hd
    have hw := wrap_next hlt hs
    refine Ev.step (f := fun k => _) (fun k => by rw [css_Filter.l0]) ?_
    refine Ev.pos (by omega) (Ev.pos (by omega) (Ev.pos (by omega) ?_))
    rw [hb, hw]
    refine Ev.bindC (letter_b _ hb2) ?_
    have hrec := ih (i + 1) hn (by omega)
    by_cases h1 : letN b.toNat = true
    · refine Ev.pos h1 (Ev.cast hrec ?_)
      rw [List.all_cons, show okB b = true from by simp [okB, okN, h1], Bool.true_and]
    refine Ev.neg h1 (Ev.bindC (digit_b _ hb2) ?_)
    by_cases h2 : digN b.toNat = true
    · refine Ev.pos h2 (Ev.cast hrec ?_)
      rw [List.all_cons, show okB b = true from by simp [okB, okN, h2], Bool.true_and]
    refine Ev.neg h2 ?_
    have h3 := index_b _ hb2
    obtain ⟨t, ht⟩ : ∃ t, strings_IndexByte.f (⟨#[32, 35, 37, 46, 44, 45]⟩ : ByteArray) (b.toNat : Int) = some t := ⟨_, rfl⟩
    rw [ht, Option.map_some] at h3
    have h4 := Option.some.inj h3
    refine Ev.bindC ht ?_
    by_cases h5 : sgnN b.toNat = true
    · refine Ev.neg (by rw [h5] at h4; simpa using h4) (Ev.cast hrec ?_)
      rw [List.all_cons, show okB b = true from by simp [okB, okN, h5], Bool.true_and]
    · refine Ev.pos (by simpa [h5] using h4) (Ev.cast (Ev.now Z) ?_)
      rw [List.all_cons, show okB b = false from by simp [okB, okN, h1, h2, h5], Bool.false_and]; rfl

theorem css_ev (s : ByteArray) (hs : s.size ≤ 4611686018427387904) : Ev (fun k => css_Filter.f k s) (filt s) :=
  css_loop s hs s.data.toList 0 rfl (Nat.zero_le _)

theorem ref_loop (s : ByteArray) (hs : s.size ≤ 4611686018427387904) : ∀ (l : List UInt8) (i : Nat), s.data.toList.drop i = l → i ≤ s.size →
    Ev (fun k => stoleref1_Filter.l0 k s (i : Int)) (if l.all okB then s else Z) := by
  intro l
  induction l with
  | nil =>
    intro i hd hi
    have := drop_end s i hi hd
    refine Ev.step (f := fun k => _) (fun k => by rw [stoleref1_Filter.l0]) ?_
    exact Ev.neg (by omega) (Ev.now s)
  | cons b l ih =>
    intro i hd hi
    have hlt := drop_lt s i hd
    have hb := bt_drop s i hd
    have hb2 := byte_lt b
    have hn := drop_next s i hd
    have hw := wrap_next hlt hs
    refine Ev.step (f := fun k => _) (fun k => by rw [stoleref1_Filter.l0]) ?_
    refine Ev.pos (by omega) (Ev.pos (by omega) ?_)
    rw [hb, hw]
    refine Ev.bindC (letter_r _ hb2) ?_
    have hrec := ih (i + 1) hn (by omega)
    by_cases h1 : letN b.toNat = true
    · refine Ev.pos h1 (Ev.cast hrec ?_)
      rw [List.all_cons, show okB b = true from by simp [okB, okN, h1], Bool.true_and]
    refine Ev.neg h1 (Ev.bindC (digit_r _ hb2) ?_)
    by_cases h2 : digN b.toNat = true
    · refine Ev.pos h2 (Ev.cast hrec ?_)
      rw [List.all_cons, show okB b = true from by simp [okB, okN, h2], Bool.true_and]
    refine Ev.neg h2 (Ev.bind (in_ev _ hb2) ?_)
    by_cases h5 : sgnN b.toNat = true
    · refine Ev.pos h5 (Ev.cast hrec ?_)
      rw [List.all_cons, show okB b = true from by simp [okB, okN, h5], Bool.true_and]
    · refine Ev.neg h5 (Ev.cast (Ev.now Z) ?_)
      rw [List.all_cons, show okB b = false from by simp [okB, okN, h1, h2, h5], Bool.false_and]; rfl

theorem ref_ev (s : ByteArray) (hs : s.size ≤ 4611686018427387904) : Ev (fun k => stoleref1_Filter.f k s) (filt s) :=
  ref_loop s hs s.data.toList 0 rfl (Nat.zero_le _)

theorem awake12 : Ev (fun k => stolelaw12_awake.f k) true := Ev.of (fun k => stolelaw12_awake.mono k) (k := 20) (by decide +kernel)

theorem filt_filt (s : ByteArray) : filt (filt s) = filt s := by
  unfold filt
  by_cases h : s.data.toList.all okB = true
  · rw [if_pos h, if_pos h]
  · rw [if_neg h]; rfl
theorem filt_two (s : ByteArray) : filt s = s ∨ filt s = Z := by
  unfold filt; split
  · exact .inl rfl
  · exact .inr rfl

theorem Filters : stolelaw12_Filters.Pure := by
  intro a b ha hb
  refine Ev.rounds ?_
  have hab : (a ++ b).size = a.size + b.size := size_append a b
  unfold stolelaw12_Filters.f
  refine Ev.bind (css_ev a (by omega)) (Ev.pos (by omega) (Ev.bind (css_ev (a ++ b) (by omega)) (Ev.bind (ref_ev a (by omega)) (Ev.pos rfl (Ev.bind (ref_ev (a ++ b) (by omega)) (Ev.pos rfl (Ev.bind (css_ev (filt a) ?_) ?_)))))))
  · rcases filt_two a with h | h
    · rw [h]; omega
    · rw [h]; decide
  refine Ev.pos (by rw [filt_filt]) ?_
  have aw : ∀ {g : Bool → Option Bool}, Ev (fun _ => g true) true → Ev (fun k => (stolelaw12_awake.f k).bind fun t => g t) true := fun h => Ev.bind awake12 h
  have hz : (filt (a ++ b)).toList ≠ (a ++ b).toList → filt (a ++ b) = Z := fun h => (filt_two (a ++ b)).resolve_left (fun e => h (by rw [e]))
  have hx : ¬ ((filt a).toList = a.toList) → filt (a ++ b) = Z := by
    intro h
    have h1 : ¬ (a.data.toList.all okB = true) := fun e => h (by unfold filt; rw [if_pos e])
    unfold filt
    rw [if_neg]
    rw [data_append, List.all_append]
    simp [h1]
  have hzl : Z.toList = ([90, 103, 111, 116, 109, 112, 108, 90] : List UInt8) := by rw [list_eq]; rfl
  by_cases h1 : (filt (a ++ b)).toList = (a ++ b).toList
  · refine Ev.pos h1 ?_
    by_cases h2 : (filt a).toList = a.toList
    · exact Ev.pos h2 (aw (Ev.now true))
    · exact Ev.neg h2 (Ev.pos (by rw [hx h2, hzl]) (aw (Ev.now true)))
  · refine Ev.neg h1 (Ev.pos (by rw [hz h1, hzl]) ?_)
    by_cases h2 : (filt a).toList = a.toList
    · exact Ev.pos h2 (aw (Ev.now true))
    · refine Ev.neg h2 ?_
      first | exact Ev.pos (by rw [hx h2, hzl]) (aw (Ev.now true)) | exact aw (Ev.now true)

end Go.Proofs.Ytnhhbfanpnpgdaa.Pure
