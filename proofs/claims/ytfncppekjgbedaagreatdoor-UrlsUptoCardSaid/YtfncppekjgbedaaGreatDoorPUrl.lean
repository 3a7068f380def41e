/- What url.Scheme, Start, Part answer: plain laws. -/
import Derived.Test.YtfncppekjgbedaaGreatDoorUrlExt
namespace Go.Proofs.YtfncppekjgbedaaGreatDoor.Sync
open Go.RowKit Go.Lib Go.Proofs.YtfncppekjgbedaaGreatDoor.Ext Go.Proofs.YtfncppekjgbedaaGreatDoor.Utf Go.Proofs.YtfncppekjgbedaaGreatDoor.Base Go.Proofs.YtfncppekjgbedaaGreatDoorW.PrintWords
set_option linter.unusedVariables false
set_option linter.unusedSimpArgs false
set_option maxRecDepth 100000

def inM (c : Nat) : Bool := letN c || digN c || moreSet.contains c.toUInt8
theorem more_all : ∀ c : Fin 256, inSet moreSet c.val = (decide (c.val < 128) && inM c.val) := by decide +kernel
theorem keep_all : ∀ c : Fin 256, inSet keepSet c.val = (decide (c.val < 128) && (letN c.val || digN c.val || keepSet.contains c.val.toUInt8)) := by decide +kernel
theorem sch_all : ∀ c : Fin 256, inSet schSet c.val = (decide (c.val < 128) && (letN c.val || digN c.val || schSet.contains c.val.toUInt8)) := by decide +kernel
theorem more_fact : ∀ c : Fin 256, inSet moreSet c.val = true → 33 ≤ c.val ∧ c.val ≤ 126 := by decide +kernel
theorem keep_fact : ∀ c : Fin 256, inSet keepSet c.val = true → 33 ≤ c.val ∧ c.val ≤ 126 ∧ inSet moreSet c.val = true ∧ c.val ≠ 37 := by decide +kernel
theorem sch_fact : ∀ c : Fin 256, inSet schSet c.val = true → 33 ≤ c.val ∧ inSet moreSet c.val = true ∧ c.val ≠ 37 ∧ c.val ≠ 58 := by decide +kernel
theorem let_fact : ∀ c : Fin 256, letN c.val = true → inSet schSet c.val = true := by decide +kernel
theorem dg_fact : ∀ j : Fin 16, inSet keepSet (dgU j.val).toNat = true ∧ inSet moreSet (dgU j.val).toNat = true := by decide +kernel
theorem fact37 : inSet moreSet 37 = true ∧ inSet moreSet 58 = true ∧ inSet keepSet 37 = false ∧ letN 37 = false := by decide +kernel
theorem moreB (b : UInt8) (h : inSet moreSet b.toNat = true) : 33 ≤ b.toNat ∧ b.toNat ≤ 126 := more_fact ⟨b.toNat, b.toNat_lt⟩ h
theorem keepB (b : UInt8) (h : inSet keepSet b.toNat = true) : 33 ≤ b.toNat ∧ b.toNat ≤ 126 ∧ inSet moreSet b.toNat = true ∧ b.toNat ≠ 37 := keep_fact ⟨b.toNat, b.toNat_lt⟩ h
theorem schB (b : UInt8) (h : inSet schSet b.toNat = true) : 33 ≤ b.toNat ∧ inSet moreSet b.toNat = true ∧ b.toNat ≠ 37 ∧ b.toNat ≠ 58 := sch_fact ⟨b.toNat, b.toNat_lt⟩ h
theorem letB (b : UInt8) (h : letN b.toNat = true) : inSet schSet b.toNat = true := let_fact ⟨b.toNat, b.toNat_lt⟩ h
theorem wr_mem (l bs : List UInt8) : ∀ b ∈ wrL l bs, inSet l b.toNat = true ∨ b = 37 ∨ ∃ j, j < 16 ∧ b = dgU j := by
  intro b hb
  unfold wrL at hb
  obtain ⟨x, hx, hb⟩ := List.mem_flatMap.1 hb
  unfold wr1 at hb
  split at hb
  · rename_i h
    obtain rfl := List.mem_singleton.1 hb
    exact .inl h
  · simp only [List.mem_cons, List.not_mem_nil, or_false] at hb
    have hx2 := x.toNat_lt
    rcases hb with rfl | rfl | rfl
    · exact .inr (.inl rfl)
    · exact .inr (.inr ⟨_, by omega, rfl⟩)
    · exact .inr (.inr ⟨_, by omega, rfl⟩)
theorem wrM_mem (bs : List UInt8) : ∀ b ∈ wrL moreSet bs, inSet moreSet b.toNat = true := by
  intro b hb
  rcases wr_mem _ _ b hb with h | rfl | ⟨j, hj, rfl⟩
  · exact h
  · exact fact37.1
  · exact (dg_fact ⟨j, hj⟩).2
theorem wrK_mem (bs : List UInt8) : ∀ b ∈ wrL keepSet bs, inSet keepSet b.toNat = true ∨ b = 37 := by
  intro b hb
  rcases wr_mem _ _ b hb with h | rfl | ⟨j, hj, rfl⟩
  · exact .inl h
  · exact .inr rfl
  · exact .inl (dg_fact ⟨j, hj⟩).1
theorem wr_same (l bs : List UInt8) (h : ∀ b ∈ bs, inSet l b.toNat = true) : wrL l bs = bs := by
  induction bs with
  | nil => rfl
  | cons b bs ih =>
    have e : wrL l (b :: bs) = wr1 l b ++ wrL l bs := rfl
    rw [e, ih (fun x hx => h x (List.mem_cons_of_mem _ hx))]
    unfold wr1; rw [if_pos (h b List.mem_cons_self)]; rfl
theorem wr_ge (l bs : List UInt8) : bs.length ≤ (wrL l bs).length := by
  induction bs with
  | nil => exact Nat.le_refl _
  | cons b bs ih =>
    have e : wrL l (b :: bs) = wr1 l b ++ wrL l bs := rfl
    have : 1 ≤ (wr1 l b).length := by unfold wr1; split <;> simp
    rw [e, List.length_append, List.length_cons]; omega
theorem wr_not (l bs : List UInt8) (x : UInt8) (hx : x ∈ bs) (h : inSet l x.toNat = false) : wrL l bs ≠ bs := by
  intro e
  have hlen : (wrL l bs).length > bs.length := by
    clear e
    induction bs with
    | nil => cases hx
    | cons b bs ih =>
      have e : wrL l (b :: bs) = wr1 l b ++ wrL l bs := rfl
      have h1 : 1 ≤ (wr1 l b).length := by unfold wr1; split <;> simp
      have h2 := wr_ge l bs
      rw [e, List.length_append, List.length_cons]
      rcases List.mem_cons.1 hx with rfl | hx
      · have : (wr1 l x).length = 3 := by unfold wr1; rw [if_neg (by rw [h]; decide)]; rfl
        omega
      · have := ih hx; omega
  rw [e] at hlen; omega
/-- A text of plain bytes is its own norm. -/
theorem norm_plain (l : List UInt8) (h : ∀ b ∈ l, 1 ≤ b.toNat ∧ b.toNat < 128) : normL l = l := by
  induction l with
  | nil => rfl
  | cons b l ih =>
    have hb := h b List.mem_cons_self
    have hs : signL (b :: l) = 1 := by
      unfold signL
      rw [if_neg (by simp)]
      have e : bAt (b :: l) 0 = b.toNat := rfl
      rw [e]; unfold sgnN
      rw [if_neg (by omega), if_pos hb.2]
    rw [norm_sign b l (by rw [hs]; decide), hs]
    show [b] ++ normL l = b :: l
    rw [ih (fun x hx => h x (List.mem_cons_of_mem _ hx))]; rfl
theorem norm_more (l : List UInt8) (h : ∀ b ∈ l, inSet moreSet b.toNat = true) : normL l = l := norm_plain l (fun b hb => by have := moreB b (h b hb); omega)
/-- Nothing is dropped of a text of such bytes. -/
theorem cut_more (s : ByteArray) (h : ∀ b ∈ s.data.toList, inSet moreSet b.toNat = true) : (cutS s).data.toList = s.data.toList := by
  have e : (cutS s).data.toList = (stripL s.data.toList).filter fun b => !brk b := rfl
  have hs : stripL s.data.toList = s.data.toList := by
    unfold stripL
    cases hl : s.data.toList with
    | nil => rfl
    | cons b l =>
      have := moreB b (h b (by rw [hl]; exact List.mem_cons_self))
      rw [List.dropWhile_cons, if_neg (by simp; omega)]
  rw [e, hs, List.filter_eq_self]
  intro b hb
  have h2 := moreB b (h b hb)
  have : ¬ brk b = true := fun hq => by
    have := (brk_nat b).1 hq
    simp [goneB] at this; omega
  simpa using this
/-- A scheme, and what it was read from. -/
theorem sch_some (p r : List UInt8) (hp : p ≠ []) (hl : letN (p.getD 0 0).toNat = true) (hs : ∀ b ∈ p, inSet schSet b.toNat = true) : schL (p ++ 58 :: r) = (p.map lowB, true) := by
  have h58 : inSet schSet 58 = false := by decide +kernel
  have hpre : pre2 (p ++ 58 :: r) = p.length := by
    clear hp hl
    induction p with
    | nil => show pre2 (58 :: r) = 0; rw [pre2_cons, if_neg (by rw [show ((58 : UInt8).toNat) = 58 from rfl, h58]; decide)]
    | cons b p ih =>
      show pre2 (b :: (p ++ 58 :: r)) = _
      rw [pre2_cons, if_pos (hs b List.mem_cons_self), ih (fun x hx => hs x (List.mem_cons_of_mem _ hx))]; rfl
  unfold schL
  have h0 : (p ++ 58 :: r).getD 0 0 = p.getD 0 0 := by cases p with
    | nil => exact absurd rfl hp
    | cons b p => rfl
  rw [if_neg (by simp), h0, if_neg (by rw [hl]; decide), hpre, if_neg ?_]
  · simp
  · rintro (h | h)
    · rw [List.length_append, List.length_cons] at h; omega
    · apply h; rw [List.getD_eq_getElem?_getD, List.getElem?_append_right (Nat.le_refl _)]; simp
theorem take_pre (l : List UInt8) : ∀ b ∈ l.take (pre2 l), inSet schSet b.toNat = true := by
  induction l with
  | nil => intro b hb; simp at hb
  | cons c l ih =>
    intro b hb
    rw [pre2_cons] at hb
    split at hb
    · rename_i h
      rw [List.take_succ_cons] at hb
      rcases List.mem_cons.1 hb with rfl | hb
      · exact h
      · exact ih b hb
    · simp at hb
theorem sch_inv (t : List UInt8) (h : (schL t).2 = true) : ∃ p r, t = p ++ 58 :: r ∧ p ≠ [] ∧ letN (p.getD 0 0).toNat = true ∧ (∀ b ∈ p, inSet schSet b.toNat = true) ∧ (schL t).1 = p.map lowB := by
  unfold schL at h ⊢
  split at h
  · cases h
  rename_i h0
  split at h
  · cases h
  rename_i h1
  split at h
  · cases h
  rename_i h2
  have hne : pre2 t ≠ t.length := fun e => h2 (.inl e)
  have hle := pre2_le t
  have h58 : t.getD (pre2 t) 0 = 58 := Classical.byContradiction fun e => h2 (.inr e)
  have hlt : pre2 t < t.length := by omega
  have hg : t[pre2 t] = 58 := by rw [List.getD_eq_getElem?_getD, List.getElem?_eq_getElem hlt] at h58; exact h58
  have h1' : letN (t.getD 0 0).toNat = true := by simpa using h1
  have hsplit : t = t.take (pre2 t) ++ 58 :: t.drop (pre2 t + 1) := by
    conv => lhs; rw [← List.take_append_drop (pre2 t) t, List.drop_eq_getElem_cons hlt, hg]
  have hp0 : 0 < pre2 t := by
    cases t with
    | nil => exact absurd rfl h0
    | cons c l => rw [pre2_cons, if_pos (letB c h1')]; omega
  refine ⟨t.take (pre2 t), t.drop (pre2 t + 1), hsplit, fun e => ?_, ?_, take_pre t, ?_⟩
  · have := congrArg List.length e
    rw [List.length_take, List.length_nil] at this; omega
  · rw [List.getD_eq_getElem?_getD, List.getElem?_take, if_pos hp0, ← List.getD_eq_getElem?_getD]; exact h1'
  · rw [if_neg h0, if_neg h1, if_neg h2]
/-- What was written plainly stood there. -/
theorem wr_prefix (l : List UInt8) : ∀ (p n r : List UInt8), (∀ b ∈ p, b ≠ 37) → wrL l n = p ++ r → ∃ n', n = p ++ n' ∧ wrL l n' = r := by
  intro p
  induction p with
  | nil => intro n r _ h; exact ⟨n, rfl, h⟩
  | cons b p ih =>
    intro n r hp h
    cases n with
    | nil => have h2 : ([] : List UInt8) = b :: (p ++ r) := h; cases h2
    | cons c n =>
      have e : wrL l (c :: n) = wr1 l c ++ wrL l n := rfl
      rw [e] at h
      unfold wr1 at h
      split at h
      · have h2 : c :: wrL l n = b :: (p ++ r) := h
        injection h2 with h3 h4
        subst h3
        obtain ⟨n', h5, h6⟩ := ih n r (fun x hx => hp x (List.mem_cons_of_mem _ hx)) h4
        exact ⟨n', by rw [h5]; rfl, h6⟩
      · have h2 : (37 : UInt8) :: _ = b :: (p ++ r) := h
        injection h2 with h3 h4
        exact absurd h3.symm (hp b List.mem_cons_self)
/-- The scheme of what Start writes is the scheme that stood there. -/
theorem sch_written (n : ByteArray) (h : (schL (wrL moreSet n.data.toList)).2 = true) : schS n = schL (wrL moreSet n.data.toList) := by
  obtain ⟨p, r, h1, h2, h3, h4, h5⟩ := sch_inv _ h
  have hp37 : ∀ b ∈ p ++ [58], b ≠ 37 := by
    intro b hb
    rcases List.mem_append.1 hb with hb | hb
    · intro e; have := (schB b (h4 b hb)).2.2.1; rw [e] at this; exact this rfl
    · rw [List.mem_singleton.1 hb]; decide
  obtain ⟨n', h6, h7⟩ := wr_prefix moreSet (p ++ [58]) n.data.toList r hp37 (by rw [h1, List.append_assoc]; rfl)
  have hcut : (cutS n).data.toList = p ++ 58 :: n'.filter fun b => !brk b := by
    have e : (cutS n).data.toList = (stripL n.data.toList).filter fun b => !brk b := rfl
    have hs : stripL n.data.toList = n.data.toList := by
      rw [h6]
      cases p with
      | nil => exact absurd rfl h2
      | cons c p =>
        have := (schB c (h4 c List.mem_cons_self)).1
        show stripL (c :: (p ++ [58] ++ n')) = _
        unfold stripL
        rw [List.dropWhile_cons, if_neg (by simp; omega)]; rfl
    have hf : (p ++ [58]).filter (fun b => !brk b) = p ++ [58] := by
      rw [List.filter_eq_self]
      intro b hb
      have : ¬ brk b = true := fun hq => by
        have h9 := (brk_nat b).1 hq
        rcases List.mem_append.1 hb with hb | hb
        · have := (schB b (h4 b hb)).1; simp [goneB] at h9; omega
        · rw [List.mem_singleton.1 hb] at h9; revert h9; decide
      simpa using this
    rw [e, hs, h6, List.filter_append, hf, List.append_assoc]; rfl
  show schL (cutS n).data.toList = _
  rw [hcut, sch_some p _ h2 h3 h4, ← h5]
  exact Prod.ext rfl h.symm
theorem ext_bytes {a b : ByteArray} (h : a.data.toList = b.data.toList) : a = b := by cases a; cases b; congr; exact Array.toList_inj.1 h
theorem start_mem (s : ByteArray) : ∀ b ∈ (startS s).data.toList, inSet moreSet b.toNat = true := by
  intro b hb
  unfold startS at hb
  simp only at hb
  split at hb
  · revert b; decide +kernel
  · exact wrM_mem _ b hb
theorem part_mem (s : ByteArray) : ∀ b ∈ (partS s).data.toList, inSet keepSet b.toNat = true ∨ b = 37 := wrK_mem _
theorem part_more (s : ByteArray) : ∀ b ∈ (partS s).data.toList, inSet moreSet b.toNat = true := fun b hb => by
  rcases part_mem s b hb with h | rfl
  · exact (keepB b h).2.2.1
  · exact fact37.1
theorem start_twice (s : ByteArray) : startS (startS s) = startS s := by
  have hm := start_mem s
  have hn : normS (startS s) = startS s := ext_bytes (norm_more _ hm)
  have hc : (cutS (startS s)).data.toList = (startS s).data.toList := cut_more _ hm
  have hw : wrL moreSet (startS s).data.toList = (startS s).data.toList := wr_same _ _ hm
  have hno : ¬ ((schS (startS s)).2 = true ∧ alw (schS (startS s)).1 = false) := by
    unfold schS
    rw [hc]
    unfold startS
    simp only
    split
    · decide +kernel
    · rename_i h
      rintro ⟨h1, h2⟩
      apply h
      rw [sch_written _ h1]
      exact ⟨h1, h2⟩
  apply ext_bytes
  have e : ∀ y : ByteArray, (startS y).data.toList = if (schS (normS y)).2 = true ∧ alw (schS (normS y)).1 = false then refused else wrL moreSet (normS y).data.toList := fun _ => rfl
  rw [e (startS s), hn, if_neg hno]
  exact hw
theorem part_twice (s : ByteArray) : partS (partS s) = partS s ↔ ∀ b ∈ (partS s).data.toList, b ≠ 37 := by
  have hn : normS (partS s) = partS s := ext_bytes (norm_more _ (part_more s))
  have e : (partS (partS s)).data.toList = wrL keepSet (partS s).data.toList := by show wrL keepSet (normS (partS s)).data.toList = _; rw [hn]
  constructor
  · intro h b hb e2
    subst e2
    exact wr_not keepSet _ 37 hb fact37.2.2.1 (by rw [← e, h])
  · intro h
    apply ext_bytes
    rw [e]
    exact wr_same _ _ (fun b hb => (part_mem s b hb).elim id (fun e2 => absurd e2 (h b hb)))
end Go.Proofs.YtfncppekjgbedaaGreatDoor.Sync
