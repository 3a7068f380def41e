/- UrlSchemes: the printed function's plain law. -/
import Derived.Test.YtfncppekjgbedaaDoorPSchemes
namespace Go.Proofs.YtfncppekjgbedaaDoor.Pure
open Go.RowKit Go.Proofs.YtfncppekjgbedaaDoor.XU Go.Proofs.YtfncppekjgbedaaDoor.Ext Go.Proofs.YtfncppekjgbedaaDoor.Sync Go.Proofs.YtfncppekjgbedaaDoor.Utf Go.Proofs.YtfncppekjgbedaaDoor.Base Go.Proofs.YtfncppekjgbedaaDoorW.PrintWords Go.Proofs.YtfncppekjgbedaaDoorW.PrintLast
set_option linter.unusedVariables false
set_option linter.unusedSimpArgs false

/-- A byte of a name: lower letters, digits, the three signs. -/
def okB (c : Nat) : Bool := (decide (97 ≤ c) && decide (c ≤ 122)) || (decide (48 ≤ c) && decide (c ≤ 57)) || c == 43 || c == 45 || c == 46
theorem ok_fact : ∀ c : Fin 256, okB c.val = true → lowN c.val = c.val ∧ inSet schSet c.val = true ∧ 33 ≤ c.val ∧ c.val < 127 := by decide +kernel
theorem up_fact : ∀ c : Fin 256, okB c.val = true → (stoleref1_Letter.f (c.val : Int)) = some true → 97 ≤ c.val ∧ lowN (c.val - 32) = c.val ∧ inSet schSet (c.val - 32) = true ∧ letN (c.val - 32) = letN c.val := by decide +kernel
theorem ltr_ev (c : Fin 256) : ∃ b, stoleref1_Letter.f (c.val : Int) = some b := by
  revert c; intro c
  have : ∀ c : Fin 256, (stoleref1_Letter.f (c.val : Int)).isSome = true := by decide +kernel
  exact Option.isSome_iff_exists.1 (this c)
/-- A name that is asked for. -/
structure NameOk (nm : List UInt8) : Prop where
  len : 0 < nm.length
  len2 : nm.length ≤ 16
  ok : ∀ b ∈ nm, okB b.toNat = true
  first : letN (nm.getD 0 0).toNat = true
/-- The text that is made, i bytes of the name written. -/
structure Shp (nm : List UInt8) (i : Nat) (x : ByteArray) (bl c : List UInt8) : Prop where
  split : x.data.toList = bl ++ c
  blank : ∀ b ∈ bl, 1 ≤ b.toNat ∧ b.toNat ≤ 32
  plain : ∀ b ∈ c, 1 ≤ b.toNat ∧ b.toNat < 128
  low : (c.filter fun b => !brk b).map lowB = nm.take i
  inS : ∀ b ∈ c.filter (fun b => !brk b), inSet schSet b.toNat = true
  head : 0 < i → ∃ y c', c = y :: c' ∧ 32 < y.toNat ∧ letN y.toNat = true ∧ brk y = false
  none : i = 0 → c = []
  size : x.size ≤ 8 + 2 * i
theorem brk_no {b : UInt8} (h : 32 < b.toNat) : brk b = false := by
  have : ¬ brk b = true := fun hq => by
    have h9 := (brk_nat b).1 hq
    simp [goneB] at h9; omega
  simpa using this
theorem brk_yes : ∀ j : Fin 3, brk (([9, 10, 13] : List UInt8).getD j.val 0) = true ∧ 1 ≤ (([9, 10, 13] : List UInt8).getD j.val 0).toNat ∧ (([9, 10, 13] : List UInt8).getD j.val 0).toNat < 128 := by decide +kernel
theorem shp_byte {nm : List UInt8} {i : Nat} {x : ByteArray} {bl c : List UInt8} (h : Shp nm i x bl c) (hi : i < nm.length) (d : UInt8) (hl : lowB d = nm[i]) (hs : inSet schSet d.toNat = true) (hd : d.toNat < 128) (h0 : i = 0 → letN d.toNat = true) :
    Shp nm (i + 1) (x ++ ⟨#[d]⟩) bl (c ++ [d]) ∧ (x ++ ⟨#[d]⟩).size ≤ 9 + 2 * i := by
  have h33 := (schB d hs).1
  have hb : brk d = false := brk_no (by omega)
  have hf : (c ++ [d]).filter (fun b => !brk b) = c.filter (fun b => !brk b) ++ [d] := by rw [List.filter_append, List.filter_cons, hb]; rfl
  have e1 : (⟨#[d]⟩ : ByteArray).size = 1 := rfl
  have hz := h.size
  refine ⟨⟨?_, h.blank, ?_, ?_, ?_, ?_, fun e => by omega, ?_⟩, ?_⟩
  · rw [data_append, h.split, List.append_assoc]
  · intro b hb
    rcases List.mem_append.1 hb with hb | hb
    · exact h.plain b hb
    · rw [List.mem_singleton.1 hb]; omega
  · rw [hf, List.map_append, h.low, List.take_succ_eq_append_getElem hi, ← hl]; rfl
  · intro b hb
    rw [hf] at hb
    rcases List.mem_append.1 hb with hb | hb
    · exact h.inS b hb
    · rw [List.mem_singleton.1 hb]; exact hs
  · intro _
    by_cases hi0 : i = 0
    · rw [h.none hi0]; exact ⟨d, [], rfl, by omega, h0 hi0, hb⟩
    · obtain ⟨y, c', e, h1, h2, h3⟩ := h.head (by omega)
      exact ⟨y, c' ++ [d], by rw [e]; rfl, h1, h2, h3⟩
  · rw [size_append, e1]; omega
  · rw [size_append, e1]; omega
theorem shp_gap {nm : List UInt8} {i : Nat} {x : ByteArray} {bl c : List UInt8} (h : Shp nm (i + 1) x bl c) (d : UInt8) (hd : brk d = true) (h1 : 1 ≤ d.toNat ∧ d.toNat < 128) (hz : x.size ≤ 9 + 2 * i) :
    Shp nm (i + 1) (x ++ ⟨#[d]⟩) bl (c ++ [d]) := by
  have hf : (c ++ [d]).filter (fun b => !brk b) = c.filter (fun b => !brk b) := by rw [List.filter_append, List.filter_cons, hd]; simp
  have e1 : (⟨#[d]⟩ : ByteArray).size = 1 := rfl
  refine ⟨?_, h.blank, ?_, ?_, ?_, ?_, fun e => by omega, ?_⟩
  · rw [data_append, h.split, List.append_assoc]
  · intro b hb
    rcases List.mem_append.1 hb with hb | hb
    · exact h.plain b hb
    · rw [List.mem_singleton.1 hb]; exact h1
  · rw [hf, h.low]
  · intro b hb; rw [hf] at hb; exact h.inS b hb
  · intro _
    obtain ⟨y, c', e, h1, h2, h3⟩ := h.head (by omega)
    exact ⟨y, c' ++ [d], by rw [e]; rfl, h1, h2, h3⟩
  · rw [size_append, e1]; omega
/-- What stands there at the end: a scheme, however. -/
theorem shp_end {nm : List UInt8} {x : ByteArray} {bl c : List UInt8} (hN : NameOk nm) (h : Shp nm nm.length x bl c) :
    ∃ p : List UInt8, p ≠ [] ∧ letN (p.getD 0 0).toNat = true ∧ (∀ b ∈ p, inSet schSet b.toNat = true) ∧ p.map lowB = nm ∧
      ∀ (s : ByteArray) (r : List UInt8), s.data.toList = x.data.toList ++ r → (cutS s).data.toList = p ++ r.filter fun b => !brk b := by
  obtain ⟨y, c', e, h1, h2, h3⟩ := h.head hN.len
  have hlow := h.low
  rw [List.take_of_length_le (Nat.le_refl _)] at hlow
  have hp : (c.filter fun b => !brk b) = y :: c'.filter fun b => !brk b := by rw [e, List.filter_cons, h3]; rfl
  refine ⟨c.filter fun b => !brk b, by rw [hp]; exact List.cons_ne_nil _ _, by rw [hp]; exact h2, h.inS, hlow, fun s r hs => ?_⟩
  rw [h.split, List.append_assoc, e] at hs
  rw [cut_code s bl c' r y hs (fun b hb => (h.blank b hb).2) h1, e]
theorem app_list (a b c : ByteArray) : ((a ++ b) ++ c).data.toList = a.data.toList ++ (b.data.toList ++ c.data.toList) := by rw [data_append, data_append, List.append_assoc]
theorem shp_colon {nm : List UInt8} {x : ByteArray} {bl c : List UInt8} (hN : NameOk nm) (h : Shp nm nm.length x bl c) (s : ByteArray) (t : List UInt8) (hs : s.data.toList = x.data.toList ++ 58 :: t) : schS s = (nm, true) := by
  obtain ⟨p, h1, h2, h3, h4, h5⟩ := shp_end hN h
  unfold schS
  rw [h5 s (58 :: t) hs]
  have e : ((58 : UInt8) :: t).filter (fun b => !brk b) = 58 :: t.filter fun b => !brk b := by rw [List.filter_cons]; rfl
  rw [e, sch_some p _ h1 h2 h3, h4]
theorem shp_slash {nm : List UInt8} {x : ByteArray} {bl c : List UInt8} (hN : NameOk nm) (h : Shp nm nm.length x bl c) (s : ByteArray) (t : List UInt8) (hs : s.data.toList = x.data.toList ++ 47 :: t) : (schS s).2 = false := by
  obtain ⟨p, h1, h2, h3, h4, h5⟩ := shp_end hN h
  unfold schS
  rw [h5 s (47 :: t) hs]
  have e : ((47 : UInt8) :: t).filter (fun b => !brk b) = 47 :: t.filter fun b => !brk b := by rw [List.filter_cons]; rfl
  rw [e, sch_slash p _ h3]
theorem blank_out : ∀ n : Fin 33, inSet moreSet n.val = false := by decide +kernel
theorem shp_start {nm : List UInt8} {x : ByteArray} {bl c : List UInt8} (hN : NameOk nm) (h : Shp nm nm.length x bl c) (s : ByteArray) (t : List UInt8) (hs : s.data.toList = x.data.toList ++ 58 :: t) :
    ((startS s).toList == ([35, 90, 103, 111, 116, 109, 112, 108, 90] : List UInt8)) = !(alw nm) := by
  have hn : (normS s).data.toList = x.data.toList ++ 58 :: normL t := by
    show normL s.data.toList = _
    have e1 : s.data.toList = (x.data.toList ++ [58]) ++ t := by rw [hs]; simp
    rw [e1, norm_app]
    · simp
    · intro b hb
      rcases List.mem_append.1 hb with hb | hb
      · rw [h.split] at hb
        rcases List.mem_append.1 hb with hb | hb
        · have := h.blank b hb; omega
        · exact h.plain b hb
      · rw [List.mem_singleton.1 hb]; decide
  have hsch := shp_colon hN h (normS s) (normL t) hn
  have e : (startS s).data.toList = if (schS (normS s)).2 = true ∧ alw (schS (normS s)).1 = false then refused else wrL moreSet (normS s).data.toList := rfl
  rw [list_eq, e, hsch]
  cases ha : alw nm with
  | false => rw [if_pos ⟨rfl, rfl⟩]; rfl
  | true =>
    rw [if_neg (by rintro ⟨_, h⟩; cases h), hn]
    obtain ⟨y, c', ec, h1, h2, h3⟩ := h.head hN.len
    have hw : ∀ (b : UInt8) (l : List UInt8), wrL moreSet (b :: l) = wr1 moreSet b ++ wrL moreSet l := fun _ _ => rfl
    have hgo : ∀ (b : UInt8) (l : List UInt8), (wr1 moreSet b).getD 0 0 ≠ 35 → wr1 moreSet b ≠ [] → ((wr1 moreSet b ++ l) == ([35, 90, 103, 111, 116, 109, 112, 108, 90] : List UInt8)) = false := by
      intro b l hb hne
      rw [beq_eq_false_iff_ne]
      intro hq
      cases hwb : wr1 moreSet b with
      | nil => exact hne hwb
      | cons z zs =>
        rw [hwb] at hq hb
        injection hq with hq1 _
        exact hb hq1
    rw [h.split]
    cases hbl : bl with
    | nil =>
      rw [ec, List.nil_append, List.cons_append, hw]
      have hm : inSet moreSet y.toNat = true := (schB y (letB y h2)).2.1
      have hw1 : wr1 moreSet y = [y] := by unfold wr1; rw [if_pos hm]
      refine hgo _ _ ?_ (by rw [hw1]; exact List.cons_ne_nil _ _)
      rw [hw1]
      intro e35
      have e35' : y = 35 := e35
      rw [e35'] at h2
      revert h2; decide +kernel
    | cons z bl' =>
      rw [List.cons_append, List.cons_append, hw]
      have hz := h.blank z (by rw [hbl]; exact List.mem_cons_self)
      have hm : inSet moreSet z.toNat = false := blank_out ⟨z.toNat, by omega⟩
      have hw1 : wr1 moreSet z = [37, dgU (z.toNat / 16), dgU (z.toNat % 16)] := by unfold wr1; rw [if_neg (by rw [hm]; decide)]
      refine hgo _ _ ?_ (by rw [hw1]; exact List.cons_ne_nil _ _)
      rw [hw1]; show (37 : UInt8) ≠ 35; decide
theorem nums_one (d : UInt8) : strOfNums [(d.toNat : Int)] = ⟨#[d]⟩ := strOfNums_bytes2 [d]
theorem and_one (z : Int) : Go.bits .and .i64 z 1 = z % 2 := by have := and_mask z 1 (by decide); simpa using this
theorem and_seven (z : Int) : Go.bits .and .i64 z 7 = z % 8 := by have := and_mask z 3 (by decide); simpa using this
theorem u64_pos (z : Int) : 0 ≤ IntKind.u64.wrap z := by rw [IntKind.wrap_u64]; omega
theorem end_ev {nm : ByteArray} {x t : ByteArray} {bl c : List UInt8} (g : Int) (hN : NameOk nm.data.toList) (h : Shp nm.data.toList nm.data.toList.length x bl c) (ht : t.size ≤ 1048576) :
    Ev (fun k => stolelaw9_UrlSchemes.l1 k g t nm x (nm.size : Int)) true := by
  have hz := h.size
  have hl2 := hN.len2
  have e1 : (⟨#[58]⟩ : ByteArray).size = 1 := rfl
  have e2 : (⟨#[47, 58]⟩ : ByteArray).size = 2 := rfl
  have hs1 : ((x ++ (⟨#[58]⟩ : ByteArray)) ++ t).data.toList = x.data.toList ++ 58 :: t.data.toList := app_list _ _ _
  have hs2 : ((x ++ (⟨#[47, 58]⟩ : ByteArray)) ++ t).data.toList = x.data.toList ++ 47 :: (58 :: t.data.toList) := app_list _ _ _
  have hc := shp_colon hN h _ _ hs1
  have hd := shp_slash hN h _ _ hs2
  have hst := shp_start hN h _ _ hs1
  have z1 : ((x ++ (⟨#[58]⟩ : ByteArray)) ++ t).size ≤ 1048625 := by rw [size_append, size_append, e1]; omega
  have z2 : ((x ++ (⟨#[47, 58]⟩ : ByteArray)) ++ t).size ≤ 1048626 := by rw [size_append, size_append, e2]; omega
  generalize hA : (x ++ (⟨#[58]⟩ : ByteArray)) ++ t = A at *
  generalize hB : (x ++ (⟨#[47, 58]⟩ : ByteArray)) ++ t = B at *
  have enm : (⟨nm.data.toList.toArray⟩ : ByteArray).toList = nm.toList := (list_eq _).trans (list_eq nm).symm
  refine Ev.step (f := fun k => _) (fun k => by rw [stolelaw9_UrlSchemes.l1, hA, hB]) ?_
  refine Ev.neg (by omega) (Ev.pos (by omega) (Ev.pos (by omega) (Ev.bindC (scheme_f A (by omega)) (Ev.pos (by omega) (Ev.pos (by omega) (Ev.bindC (scheme_f B (by omega)) ?_))))))
  simp only [hc, hd, enm]
  have hfin : ∀ b : Bool, b = !(alw nm.data.toList) → Ev (fun k => if True then (if True then (if false = true then some false else (url_Start.f A).bind fun t => some ((t.toList == ([35, 90, 103, 111, 116, 109, 112, 108, 90] : List UInt8)) == b)) else some false) else some false) true := by
    intro b hb
    refine Ev.pos trivial (Ev.pos trivial (Ev.neg (by decide) (Ev.bindC (start_f A (by omega)) (Ev.ofSome ?_))))
    rw [hst, hb]; simp
  have el : nm.toList = nm.data.toList := list_eq nm
  have ha : alw nm.data.toList = (nm.data.toList == [104, 116, 116, 112] || nm.data.toList == [104, 116, 116, 112, 115] || nm.data.toList == [109, 97, 105, 108, 116, 111] || nm.data.toList == [116, 101, 108]) := rfl
  by_cases q1 : nm.toList = [104, 116, 116, 112]
  · exact Ev.pos q1 (hfin _ (by rw [ha, ← el, q1]; rfl))
  refine Ev.neg q1 ?_
  by_cases q2 : nm.toList = [104, 116, 116, 112, 115]
  · exact Ev.pos q2 (hfin _ (by rw [ha, ← el, q2]; rfl))
  refine Ev.neg q2 ?_
  by_cases q3 : nm.toList = [109, 97, 105, 108, 116, 111]
  · exact Ev.pos q3 (hfin _ (by rw [ha, ← el, q3]; rfl))
  refine Ev.neg q3 ?_
  refine hfin _ ?_
  rw [ha, ← el, show (nm.toList == [104, 116, 116, 112]) = false from by simpa using q1, show (nm.toList == [104, 116, 116, 112, 115]) = false from by simpa using q2, show (nm.toList == [109, 97, 105, 108, 116, 111]) = false from by simpa using q3]; simp
theorem l1_ev (nm t : ByteArray) (g : Int) (hN : NameOk nm.data.toList) (ht : t.size ≤ 1048576) : ∀ d i (x : ByteArray) (bl c : List UInt8), i + d = nm.size → Shp nm.data.toList i x bl c →
    Ev (fun k => stolelaw9_UrlSchemes.l1 k g t nm x (i : Int)) true := by
  intro d
  induction d with
  | zero =>
    intro i x bl c hi h
    obtain rfl : i = nm.size := by omega
    exact end_ev g hN h ht
  | succ d ih =>
    intro i x bl c hi h
    have hlt : i < nm.size := by omega
    have hll : i < nm.data.toList.length := hlt
    have hz := h.size
    have hl2 : nm.size ≤ 16 := hN.len2
    obtain ⟨b, hb, hbt⟩ := bt_at nm i hlt
    have hbm : b ∈ nm.data.toList := by rw [← hb]; exact List.getElem_mem _
    have hok := hN.ok b hbm
    obtain ⟨f1, f2, f3, f4⟩ := ok_fact ⟨b.toNat, b.toNat_lt⟩ hok
    simp only at f1 f2 f3 f4
    have hlow : lowB b = b := by apply UInt8.toNat_inj.1; rw [lowB_nat, f1]
    have h0 : i = 0 → letN b.toNat = true := by
      intro e; subst e
      have := hN.first
      rw [List.getD_eq_getElem?_getD, List.getElem?_eq_getElem hll, hb] at this
      exact this
    have hw : wrap64 ((i : Int) + 1) = ((i + 1 : Nat) : Int) := wrap_next (n := 1000) (by omega) (by decide)
    -- one byte, and perhaps a break
    have hJ : ∀ (e : UInt8), lowB e = b → inSet schSet e.toNat = true → e.toNat < 128 → (i = 0 → letN e.toNat = true) →
        Ev (fun k => if x.size + (strOfNums [(e.toNat : Int)]).size ≤ 9223372036854775807 then (if 0 ≤ (IntKind.u64.wrap (wrap64 ((i : Int) + 20))) then (if (Go.bits .and .i64 (shr .i64 g (IntKind.u64.wrap (wrap64 ((i : Int) + 20)))) 1) = 1 then ((some (([(⟨#[9]⟩ : ByteArray), (⟨#[10]⟩ : ByteArray), (⟨#[13]⟩ : ByteArray)] : List ByteArray) : List ByteArray)).bind fun y184 => (if 0 ≤ (Int.tmod (i : Int) 3) then (if (Int.tmod (i : Int) 3) < (y184.length : Int) then (if x.size + (strOfNums [(e.toNat : Int)]).size + (rdOf ByteArray.empty y184 (Int.tmod (i : Int) 3)).size ≤ 9223372036854775807 then (stolelaw9_UrlSchemes.l1 k g t nm ((x ++ (strOfNums [(e.toNat : Int)])) ++ (rdOf ByteArray.empty y184 (Int.tmod (i : Int) 3))) (wrap64 ((i : Int) + 1))) else (none)) else (none)) else (none))) else (stolelaw9_UrlSchemes.l1 k g t nm (x ++ (strOfNums [(e.toNat : Int)])) (wrap64 ((i : Int) + 1)))) else (none)) else (none)) true := by
      intro e he1 he2 he3 he4
      obtain ⟨hs, hs9⟩ := shp_byte h hll e (by rw [he1, hb]) he2 he3 he4
      rw [nums_one, hw]
      have e1 : (⟨#[e]⟩ : ByteArray).size = 1 := rfl
      refine Ev.pos (by rw [e1]; omega) (Ev.pos (u64_pos _) ?_)
      by_cases hq : (Go.bits .and .i64 (shr .i64 g (IntKind.u64.wrap (wrap64 ((i : Int) + 20)))) 1) = 1
      · refine Ev.pos hq (Ev.bindC rfl ?_)
        have ht3 : Int.tmod (i : Int) 3 = ((i % 3 : Nat) : Int) := rfl
        obtain ⟨m, hm⟩ : ∃ m, i % 3 = m := ⟨_, rfl⟩
        have hm3 : m < 3 := by omega
        rw [ht3, hm]
        have hr : rdOf ByteArray.empty ([(⟨#[9]⟩ : ByteArray), (⟨#[10]⟩ : ByteArray), (⟨#[13]⟩ : ByteArray)]) (m : Int) = ⟨#[([9, 10, 13] : List UInt8).getD m 0]⟩ := by
          rcases m with _ | _ | _ | m
          · rfl
          · rfl
          · rfl
          · omega
        obtain ⟨y1, y2⟩ := brk_yes ⟨m, hm3⟩
        simp only at y1 y2
        rw [hr]
        generalize ([9, 10, 13] : List UInt8).getD m 0 = dd at *
        have e3 : (⟨#[dd]⟩ : ByteArray).size = 1 := rfl
        refine Ev.pos (by omega) (Ev.pos (by simp; omega) (Ev.pos (by rw [e1, e3]; omega) ?_))
        exact ih (i + 1) _ bl _ (by omega) (shp_gap hs dd y1 y2 hs9)
      · exact Ev.neg hq (ih (i + 1) _ bl _ (by omega) hs)
    have hK : ∀ f : Bool, stoleref1_Letter.f (b.toNat : Int) = some f ∨ f = false → Ev (fun k => stolelaw9_UrlSchemes.j2 k g t nm x (i : Int) (b.toNat : Int) f) true := by
      intro f hf
      refine Ev.step (f := fun k => _) (fun k => by rw [stolelaw9_UrlSchemes.j2]) ?_
      cases f with
      | false => exact Ev.neg (by decide) (Ev.bindC rfl (hJ b hlow f2 (by omega) h0))
      | true =>
        obtain ⟨u1, u2, u3, u4⟩ := up_fact ⟨b.toNat, b.toNat_lt⟩ hok (hf.elim id (fun e => by cases e))
        simp only at u1 u2 u3 u4
        have hbl := b.toNat_lt
        have en : (UInt8.ofNat (b.toNat - 32)).toNat = b.toNat - 32 := by rw [UInt8.toNat_ofNat', Nat.mod_eq_of_lt (by omega)]
        have e32 : ((b.toNat : Int) - 32) % 256 = ((UInt8.ofNat (b.toNat - 32)).toNat : Int) := by rw [en]; omega
        refine Ev.pos rfl ?_
        rw [e32]
        refine Ev.bindC rfl (hJ (UInt8.ofNat (b.toNat - 32)) ?_ (by rw [en]; exact u3) (by rw [en]; omega) (fun e => by rw [en, u4]; exact h0 e))
        apply UInt8.toNat_inj.1; rw [lowB_nat, en, u2]
    refine Ev.step (f := fun k => _) (fun k => by rw [stolelaw9_UrlSchemes.l1]) ?_
    rw [hbt]
    refine Ev.pos (by omega) (Ev.pos (by omega) (Ev.pos (u64_pos _) ?_))
    by_cases hq : (Go.bits .and .i64 (shr .i64 g (IntKind.u64.wrap (wrap64 ((i : Int) + 8)))) 1) = 1
    · obtain ⟨f, hf⟩ := ltr_ev ⟨b.toNat, b.toNat_lt⟩
      exact Ev.pos hq (Ev.bindC hf (hK f (.inl hf)))
    · exact Ev.neg hq (hK false (.inr rfl))
theorem l0_ev (nm t : ByteArray) (g : Int) (hN : NameOk nm.data.toList) (ht : t.size ≤ 1048576) : ∀ d i (x : ByteArray), i + d = 8 → (∀ b ∈ x.data.toList, 1 ≤ b.toNat ∧ b.toNat ≤ 32) → x.size ≤ i →
    Ev (fun k => stolelaw9_UrlSchemes.l0 k g t nm x (i : Int)) true := by
  intro d
  induction d with
  | zero =>
    intro i x hi h hz
    refine Ev.step (f := fun k => _) (fun k => by rw [stolelaw9_UrlSchemes.l0]) ?_
    refine Ev.neg (by rw [and_seven]; omega) ?_
    exact l1_ev nm t g hN ht nm.size 0 x x.data.toList [] (by omega) ⟨(by simp), h, (fun b hb => (by cases hb)), (by simp), (fun b hb => (by cases hb)), (fun h => (by omega)), (fun _ => rfl), (by omega)⟩
  | succ d ih =>
    intro i x hi h hz
    refine Ev.step (f := fun k => _) (fun k => by rw [stolelaw9_UrlSchemes.l0]) ?_
    by_cases hlt : (i : Int) < g % 8
    · refine Ev.pos (by rw [and_seven]; exact hlt) (Ev.pos (u64_pos _) ?_)
      rw [and_one]
      generalize shr .i64 g (IntKind.u64.wrap (wrap64 (3 + (i : Int)))) = z
      have hw : wrap64 ((i : Int) + 1) = ((i + 1 : Nat) : Int) := wrap_next (n := 1000) (by omega) (by decide)
      rw [hw]
      have key : ∀ e : UInt8, 1 ≤ e.toNat → e.toNat ≤ 32 → Ev (fun k => (some ([(e.toNat : Int)] : List Int)).bind fun y169 => (if x.size + (strOfNums y169).size ≤ 9223372036854775807 then (stolelaw9_UrlSchemes.l0 k g t nm (x ++ (strOfNums y169)) ((i + 1 : Nat) : Int)) else (none))) true := by
        intro e h1 h2
        have e1 : (⟨#[e]⟩ : ByteArray).size = 1 := rfl
        refine Ev.bindC rfl ?_
        rw [nums_one]
        refine Ev.pos (by rw [e1]; omega) (ih (i + 1) _ (by omega) (fun b hb => ?_) (by rw [size_append, e1]; omega))
        rw [data_append] at hb
        rcases List.mem_append.1 hb with hb | hb
        · exact h b hb
        · rw [List.mem_singleton.1 hb]; exact ⟨h1, h2⟩
      rcases (show z % 2 = 0 ∨ z % 2 = 1 by omega) with e | e
      · rw [e]; exact key 1 (by decide) (by decide)
      · rw [e]; exact key 32 (by decide) (by decide)
    · refine Ev.neg (by rw [and_seven]; exact hlt) ?_
      exact l1_ev nm t g hN ht nm.size 0 x x.data.toList [] (by omega) ⟨(by simp), h, (fun b hb => (by cases hb)), (by simp), (fun b hb => (by cases hb)), (fun h => (by omega)), (fun _ => rfl), (by omega)⟩
def names9 : List ByteArray := [(⟨#[104, 116, 116, 112]⟩ : ByteArray), (⟨#[104, 116, 116, 112, 115]⟩ : ByteArray), (⟨#[109, 97, 105, 108, 116, 111]⟩ : ByteArray), (⟨#[116, 101, 108]⟩ : ByteArray), (⟨#[106, 97, 118, 97, 115, 99, 114, 105, 112, 116]⟩ : ByteArray), (⟨#[100, 97, 116, 97]⟩ : ByteArray), (⟨#[97]⟩ : ByteArray), (⟨#[120, 45, 121, 46, 122, 43, 49]⟩ : ByteArray)]
theorem names_ok : ∀ j : Fin 8, (decide (0 < (names9.getD j.val ByteArray.empty).data.toList.length) && decide ((names9.getD j.val ByteArray.empty).data.toList.length ≤ 16) && (names9.getD j.val ByteArray.empty).data.toList.all (fun b => okB b.toNat) && letN ((names9.getD j.val ByteArray.empty).data.toList.getD 0 0).toNat) = true := by decide +kernel
theorem UrlSchemes (g0 g : Int) (t : ByteArray) (_ : (Lit.int .i64 g0).wf = true) (_ : (Lit.int .i64 g).wf = true) (_ : t.size ≤ 140737488351232) (hb : t.size ≤ 1048576) : ∃ k, stolelaw9_UrlSchemes.f k g0 g t = some true := by
  have hE : Ev (fun k => stolelaw9_UrlSchemes.f k g0 g t) true := by
    unfold stolelaw9_UrlSchemes.f
    have hu := u64_pos g0
    generalize IntKind.u64.wrap g0 = u at *
    obtain ⟨n, rfl⟩ : ∃ n : Nat, u = n := ⟨u.toNat, by omega⟩
    obtain ⟨j, hj⟩ : ∃ j : Nat, n % 8 = j := ⟨_, rfl⟩
    have hj8 : j < 8 := by omega
    have hm : wrap64 (Int.tmod (n : Int) 8) = (j : Int) := by
      have : Int.tmod (n : Int) 8 = ((n % 8 : Nat) : Int) := rfl
      rw [this, hj]; unfold wrap64; omega
    rw [hm]
    refine Ev.bindC awake9 (Ev.pos rfl (Ev.bindC rfl (Ev.pos (by omega) (Ev.pos (by simp; omega) ?_))))
    have hok := names_ok ⟨j, hj8⟩
    simp only [Bool.and_eq_true, decide_eq_true_eq, List.all_eq_true] at hok
    obtain ⟨⟨⟨k1, k2⟩, k3⟩, k4⟩ := hok
    exact l0_ev (names9.getD j ByteArray.empty) t g ⟨k1, k2, k3, k4⟩ hb 8 0 ⟨#[]⟩ rfl (fun b hb => (by cases hb)) (Nat.le_refl _)
  obtain ⟨n, hn⟩ := hE
  exact ⟨n, hn n (Nat.le_refl _)⟩
end Go.Proofs.YtfncppekjgbedaaDoor.Pure
