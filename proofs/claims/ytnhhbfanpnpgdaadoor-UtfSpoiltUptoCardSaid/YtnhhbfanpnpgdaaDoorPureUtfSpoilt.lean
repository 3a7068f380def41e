/- UtfSpoilt: each byte that is of no sign is told as U+FFFD by itself: the plain law, of a text of at most 1048576 bytes. -/
import Derived.Test.YtnhhbfanpnpgdaaDoorXU5
import Derived.Test.YtnhhbfanpnpgdaaDoorPureUtfSigns
namespace Go.Proofs.YtnhhbfanpnpgdaaDoor.Pure
open Go.RowKit Go.Proofs.YtnhhbfanpnpgdaaDoor.XU Go.Proofs.YtnhhbfanpnpgdaaDoorW.PrintWords Go.Proofs.YtnhhbfanpnpgdaaDoorW.PrintLast Go.Proofs.YtnhhbfanpnpgdaaDoor.Base Go.Proofs.YtnhhbfanpnpgdaaDoor.Ext Go.Proofs.YtnhhbfanpnpgdaaDoor.Utf

theorem rem5 (x : Int) : ∃ i : Nat, i < 5 ∧ wrap64 (Int.tmod (IntKind.u64.wrap x) 5) = (i : Int) := by
  have h0 : 0 ≤ IntKind.u64.wrap x := by simp [IntKind.wrap, IntKind.bits, IntKind.signed]; omega
  generalize IntKind.u64.wrap x = y at h0
  obtain ⟨n, rfl⟩ := Int.eq_ofNat_of_zero_le h0
  refine ⟨n % 5, by omega, ?_⟩
  have e : Int.tmod (n : Int) (5 : Int) = ((n % 5 : Nat) : Int) := rfl
  rw [e]
  unfold wrap64
  omega
/-- A byte of no sign that is none, whatever follows. -/
def spoilt (b : UInt8) : Prop := ∀ l, signL (b :: l) = 0
theorem spoilt_of (b : UInt8) (h : b.toNat = 0 ∨ (128 ≤ b.toNat ∧ b.toNat < 194) ∨ 244 < b.toNat) : spoilt b := by
  intro l
  rw [sgn_list]; unfold sgnN
  by_cases h0 : b.toNat = 0
  · rw [if_pos h0]
  · rw [if_neg h0, if_neg (by omega), if_neg (by omega), if_neg (by omega), if_neg (by omega)]
theorem five : ∀ i : Nat, i < 5 → ∃ b : UInt8, rd [255, 192, 245, 128, 0] (i : Int) = (b.toNat : Int) ∧ spoilt b := by
  intro i hi
  have h : i = 0 ∨ i = 1 ∨ i = 2 ∨ i = 3 ∨ i = 4 := by omega
  rcases h with rfl | rfl | rfl | rfl | rfl
  · exact ⟨255, rfl, spoilt_of _ (by decide)⟩
  · exact ⟨192, rfl, spoilt_of _ (by decide)⟩
  · exact ⟨245, rfl, spoilt_of _ (by decide)⟩
  · exact ⟨128, rfl, spoilt_of _ (by decide)⟩
  · exact ⟨0, rfl, spoilt_of _ (by decide)⟩
/-- What is gathered: a's norm is want's bytes, whatever follows. -/
structure Gat (a want : ByteArray) (n : Nat) : Prop where
  norm : ∀ l, normL (a.data.toList ++ l) = want.data.toList ++ normL l
  sa : a.size = 2 * n
  sw : want.size = 4 * n
theorem sgn_x (l : List UInt8) : normL (120 :: l) = 120 :: normL l := by
  have h : signL (120 :: l) = 1 := by rw [sgn_list]; rfl
  rw [norm_sign _ _ (by omega), h]; rfl
theorem gat_next (a w : ByteArray) (n : Nat) (b : UInt8) (h : Gat a w n) (hb : spoilt b) : Gat ((a ++ (⟨#[120]⟩ : ByteArray)) ++ strOfNums [(b.toNat : Int)]) (w ++ (⟨#[120, 239, 191, 189]⟩ : ByteArray)) (n + 1) := by
  have hs : strOfNums [(b.toNat : Int)] = ⟨#[b]⟩ := by
    have := strOfNums_bytes [b]
    exact this
  rw [hs]
  refine ⟨fun l => ?_, ?_, ?_⟩
  · rw [data_append, data_append, data_append, List.append_assoc, List.append_assoc, h.norm]
    show _ ++ normL (120 :: (b :: l)) = _ ++ [120, 239, 191, 189] ++ _
    rw [sgn_x, norm_bad b l (hb l), List.append_assoc]; rfl
  · rw [size_append, size_append, h.sa]; show 2 * n + 1 + 1 = _; omega
  · rw [size_append, h.sw]; show 4 * n + 4 = _; omega

theorem spoilt_j1 (xs : List Int) (s a w : ByteArray) (n : Nat) (h : Gat a w n) (hn : n ≤ 30) (hnx : n = 0 ↔ xs.length = 0) (hs : s.size ≤ 1048576) :
    Ev (fun k => stolelaw1_UtfSpoilt.j1 k xs s a w) true := by
  refine Ev.step (f := fun k => _) (fun k => by rw [stolelaw1_UtfSpoilt.j1]) ?_
  have h3 := norm_len s.data.toList
  rw [data_length] at h3
  have hns : (normS s).size ≤ 3 * s.size := by rw [← data_length]; exact h3
  have hsa := h.sa
  have hsw := h.sw
  have z1 := size_append a (⟨#[121]⟩ : ByteArray)
  have z2 := size_append (a ++ (⟨#[121]⟩ : ByteArray)) (normS s)
  have s1 : (⟨#[121]⟩ : ByteArray).size = 1 := rfl
  have hnn : normL (normL s.data.toList) = normL s.data.toList := norm_norm _
  have hy : ∀ l, normL (121 :: l) = 121 :: normL l := by
    intro l
    have h : signL (121 :: l) = 1 := by rw [sgn_list]; rfl
    rw [norm_sign _ _ (by omega), h]; rfl
  have hw0 : normL a.data.toList = w.data.toList := by
    have := h.norm []
    rw [List.append_nil, norm_nil, List.append_nil] at this
    exact this
  refine Ev.bindC (norm_ok s (by omega)) (Ev.pos (by omega) (Ev.pos (by omega) (Ev.bindC (norm_ok _ (by omega)) (Ev.pos (by omega) (Ev.pos (by omega) (Ev.pos ?_ (Ev.bindC (may_ok a (by omega)) (Ev.pos ?_ (Ev.bindC (s := 0) rfl (Ev.now _))))))))))
  · rw [list_eq, list_eq]
    show normL ((a ++ (⟨#[121]⟩ : ByteArray)) ++ normS s).data.toList = _
    rw [data_append, data_append, data_append, data_append, List.append_assoc, h.norm, List.append_assoc]
    congr 1
    show normL (121 :: normL s.data.toList) = 121 :: normL s.data.toList
    rw [hy, hnn]
  · rw [beq_iff_eq, Bool.eq_iff_iff, beq_iff_eq, beq_iff_eq, hw0]
    constructor
    · intro e
      have := congrArg List.length e
      rw [data_length, data_length] at this
      have : xs.length = 0 := hnx.1 (by omega)
      omega
    · intro e
      have hn0 : n = 0 := hnx.2 (by omega)
      have e1 : a.data.toList = [] := List.eq_nil_of_length_eq_zero (by rw [data_length]; omega)
      have e2 : w.data.toList = [] := List.eq_nil_of_length_eq_zero (by rw [data_length]; omega)
      rw [e1, e2]

theorem spoilt_loop (xs : List Int) (s : ByteArray) (hs : s.size ≤ 1048576) (hx : xs.length ≤ 140737488351232) : ∀ (d i : Nat) (a w : ByteArray), min xs.length 30 - i = d → i ≤ xs.length → i ≤ 30 → Gat a w i →
    Ev (fun k => stolelaw1_UtfSpoilt.l0 k xs s a w (i : Int)) true := by
  intro d
  induction d with
  | zero =>
    intro i a w hd h1 h2 hg
    refine Ev.step (f := fun k => _) (fun k => by rw [stolelaw1_UtfSpoilt.l0]) ?_
    have hj := spoilt_j1 xs s a w i hg h2 (by omega) hs
    by_cases h : i < xs.length
    · exact Ev.pos (by omega) (Ev.neg (by omega) hj)
    · exact Ev.neg (by omega) hj
  | succ d ih =>
    intro i a w hd h1 h2 hg
    refine Ev.step (f := fun k => _) (fun k => by rw [stolelaw1_UtfSpoilt.l0]) ?_
    obtain ⟨m, hm, he⟩ := rem5 (rd xs (i : Int))
    obtain ⟨b, hb, hsp⟩ := five m hm
    have hsa := hg.sa
    have hsw := hg.sw
    refine Ev.pos (by omega) (Ev.pos (by omega) (Ev.bindC rfl ?_))
    rw [he, hb, wrap_one i (by omega)]
    have hsz : (strOfNums [(b.toNat : Int)]).size = 1 := by rw [strOfNums_size]; rfl
    refine Ev.pos (by omega) (Ev.pos (by omega) (Ev.pos (by show (m : Int) < 5; omega) (Ev.pos (by omega) (Ev.bindC rfl (Ev.pos (by omega) (Ev.pos (by omega) ?_))))))
    exact ih (i + 1) _ _ (by omega) (by omega) (by omega) (gat_next a w i b hg hsp)

theorem UtfSpoilt (xs : List Int) (s : ByteArray) (hx : xs.length * 8 ≤ 140737488351232) (_ : s.size ≤ 140737488351232) (hb : s.size ≤ 1048576) : ∃ k, stolelaw1_UtfSpoilt.f k xs s = some true := by
  refine Ev.rounds ?_
  unfold stolelaw1_UtfSpoilt.f
  refine Ev.bindC awake1 (Ev.pos rfl ?_)
  exact spoilt_loop xs s hb (by omega) _ 0 _ _ rfl (by omega) (by omega) ⟨fun l => rfl, rfl, rfl⟩
end Go.Proofs.YtnhhbfanpnpgdaaDoor.Pure
