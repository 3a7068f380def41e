/- UrlPlain: the printed function's plain law. -/
import Derived.Test.YtfncppekjgbedaaDoorPTwice
import Derived.Test.YtfncppekjgbedaaDoorXU2
namespace Go.Proofs.YtfncppekjgbedaaDoor.Pure
open Go.RowKit Go.Proofs.YtfncppekjgbedaaDoor.XU Go.Proofs.YtfncppekjgbedaaDoor.Ext Go.Proofs.YtfncppekjgbedaaDoor.Sync Go.Proofs.YtfncppekjgbedaaDoor.Utf Go.Proofs.YtfncppekjgbedaaDoor.Base Go.Proofs.YtfncppekjgbedaaDoorW.PrintWords Go.Proofs.YtfncppekjgbedaaDoorW.PrintLast
set_option linter.unusedVariables false
set_option linter.unusedSimpArgs false

def ltr (n : Nat) : Bool := (stoleref1_Letter.f (n : Int)).getD false
def dgt (n : Nat) : Bool := (stoleref1_Digit.f (n : Int)).getD false
theorem ltr_all : ∀ n : Fin 256, stoleref1_Letter.f (n.val : Int) = some (ltr n.val) := by decide +kernel
theorem dgt_all : ∀ n : Fin 256, stoleref1_Digit.f (n.val : Int) = some (dgt n.val) := by decide +kernel
theorem keep_in : ∀ n : Fin 256, (ltr n.val = true ∨ dgt n.val = true ∨ n.val = 45 ∨ n.val = 46 ∨ n.val = 95 ∨ n.val = 126) → inSet keepSet n.val = true := by decide +kernel
def KeepAll (t : ByteArray) : Prop := ∀ b ∈ t.data.toList, inSet keepSet b.toNat = true
theorem keep_part {t : ByteArray} (h : KeepAll t) : partS t = t := by
  have hn : normS t = t := ext_bytes (norm_more _ (fun b hb => (keepB b (h b hb)).2.2.1))
  apply ext_bytes
  show wrL keepSet (normS t).data.toList = _
  rw [hn]; exact wr_same _ _ h
theorem start_same {t : ByteArray} (h : ∀ b ∈ t.data.toList, inSet moreSet b.toNat = true) (hs : (schL t.data.toList).2 = false) : startS t = t := by
  have hn : normS t = t := ext_bytes (norm_more _ h)
  have hc : schS t = schL t.data.toList := by unfold schS; rw [cut_more t h]
  have e : ∀ y : ByteArray, (startS y).data.toList = if (schS (normS y)).2 = true ∧ alw (schS (normS y)).1 = false then refused else wrL moreSet (normS y).data.toList := fun _ => rfl
  apply ext_bytes
  rw [e, hn, if_neg (by rw [hc, hs]; rintro ⟨h1, _⟩; cases h1)]
  exact wr_same _ _ h
theorem keep_start {t : ByteArray} (h : KeepAll t) : startS t = t := by
  refine start_same (fun b hb => (keepB b (h b hb)).2.2.1) ?_
  rw [Bool.eq_false_iff]
  intro hq
  obtain ⟨p, r, h1, _⟩ := sch_inv _ hq
  have h2 := h 58 (by rw [h1]; simp)
  revert h2
  show ¬ (inSet keepSet 58 = true)
  decide +kernel
theorem slash_start {t : ByteArray} (h : KeepAll t) : startS (((⟨#[47]⟩ : ByteArray) ++ t) ++ (⟨#[63, 97, 61, 98, 38, 99, 35, 37, 52, 49]⟩ : ByteArray)) = ((⟨#[47]⟩ : ByteArray) ++ t) ++ (⟨#[63, 97, 61, 98, 38, 99, 35, 37, 52, 49]⟩ : ByteArray) := by
  have hd : ((((⟨#[47]⟩ : ByteArray) ++ t) ++ (⟨#[63, 97, 61, 98, 38, 99, 35, 37, 52, 49]⟩ : ByteArray))).data.toList = 47 :: (t.data.toList ++ [63, 97, 61, 98, 38, 99, 35, 37, 52, 49]) := by rw [data_append, data_append]; rfl
  have hall : ∀ b ∈ ([63, 97, 61, 98, 38, 99, 35, 37, 52, 49] : List UInt8), inSet moreSet b.toNat = true := by decide +kernel
  have h47 : inSet moreSet (47 : UInt8).toNat = true := by decide +kernel
  refine start_same (fun b hb => ?_) ?_
  · rw [hd] at hb
    rcases List.mem_cons.1 hb with rfl | hb
    · exact h47
    · rcases List.mem_append.1 hb with hb | hb
      · exact (keepB b (h b hb)).2.2.1
      · exact hall b hb
  · rw [hd]
    unfold schL
    have e0 : (47 :: (t.data.toList ++ [63, 97, 61, 98, 38, 99, 35, 37, 52, 49])).getD 0 0 = (47 : UInt8) := rfl
    rw [if_neg (by simp), e0, if_pos (by decide +kernel)]
theorem wr_app (l a b : List UInt8) : wrL l (a ++ b) = wrL l a ++ wrL l b := by unfold wrL; rw [List.flatMap_append]
theorem slash_part {t : ByteArray} (h : KeepAll t) : partS (((⟨#[47]⟩ : ByteArray) ++ t) ++ (⟨#[32]⟩ : ByteArray)) = ((⟨#[37, 50, 70]⟩ : ByteArray) ++ t) ++ (⟨#[37, 50, 48]⟩ : ByteArray) := by
  have hd : ((((⟨#[47]⟩ : ByteArray) ++ t) ++ (⟨#[32]⟩ : ByteArray))).data.toList = ([47] ++ t.data.toList) ++ [32] := by rw [data_append, data_append]
  have hn : (normS (((⟨#[47]⟩ : ByteArray) ++ t) ++ (⟨#[32]⟩ : ByteArray))).data.toList = ([47] ++ t.data.toList) ++ [32] := by
    rw [← hd]
    refine norm_plain _ (fun b hb => ?_)
    rw [hd] at hb
    rcases List.mem_append.1 hb with hb | hb
    · rcases List.mem_append.1 hb with hb | hb
      · rw [List.mem_singleton.1 hb]; decide
      · have := keepB b (h b hb); omega
    · rw [List.mem_singleton.1 hb]; decide
  apply ext_bytes
  show wrL keepSet (normS _).data.toList = _
  rw [hn, wr_app, wr_app, wr_same keepSet _ h, data_append, data_append]
  have e1 : wrL keepSet [47] = [37, 50, 70] := by decide +kernel
  have e2 : wrL keepSet [32] = [37, 50, 48] := by decide +kernel
  rw [e1, e2]
theorem plain_end (s t : ByteArray) (h : KeepAll t) (ht : t.size ≤ 300) (i : Int) : Ev (fun k => stolelaw9_UrlPlain.j1 k s t i false) true := by
  refine Ev.step (f := fun k => _) (fun k => by rw [stolelaw9_UrlPlain.j1]) ?_
  have z1 : (((⟨#[47]⟩ : ByteArray) ++ t) ++ (⟨#[63, 97, 61, 98, 38, 99, 35, 37, 52, 49]⟩ : ByteArray)).size ≤ 15000000000000 := by
    rw [size_append, size_append]; have e1 : (⟨#[47]⟩ : ByteArray).size = 1 := rfl; have e2 : (⟨#[63, 97, 61, 98, 38, 99, 35, 37, 52, 49]⟩ : ByteArray).size = 10 := rfl; omega
  have z2 : (((⟨#[47]⟩ : ByteArray) ++ t) ++ (⟨#[32]⟩ : ByteArray)).size ≤ 15000000000000 := by
    rw [size_append, size_append]; have e1 : (⟨#[47]⟩ : ByteArray).size = 1 := rfl; have e2 : (⟨#[32]⟩ : ByteArray).size = 1 := rfl; omega
  refine Ev.neg (by decide) (Ev.bindC (part_f t (by omega)) (Ev.pos (by rw [keep_part h]) (Ev.bindC (start_f t (by omega)) (Ev.pos (by rw [keep_start h]) (Ev.pos (by omega) (Ev.pos (by omega) (Ev.bindC (start_f _ z1) (Ev.pos (by rw [slash_start h]) (Ev.pos (by omega) (Ev.bindC (part_f _ z2) (Ev.pos (by omega) (Ev.pos (by omega) (Ev.pos (by rw [slash_part h]) (Ev.bindC (s := 0) rfl (Ev.ofSome rfl)))))))))))))))
theorem plain_l0 (s : ByteArray) (hs : s.size ≤ 1000000000000000) : ∀ d i (t : ByteArray), i + d = 301 → KeepAll t → t.size ≤ i → i ≤ 300 → Ev (fun k => stolelaw9_UrlPlain.l0 k s t (i : Int)) true := by
  intro d
  induction d with
  | zero => intro i t hi _ _ h; omega
  | succ d ih =>
    intro i t hi hK ht hi3
    refine Ev.step (f := fun k => _) (fun k => by rw [stolelaw9_UrlPlain.l0]) ?_
    by_cases hlt : i < s.size
    · refine Ev.pos (by omega) ?_
      by_cases h3 : i < 300
      · rw [decide_eq_true (show (i : Int) < 300 by omega)]
        obtain ⟨b, hb, hbt⟩ := bt_at s i hlt
        have hw : wrap64 ((i : Int) + 1) = ((i + 1 : Nat) : Int) := wrap_next (n := 1000) (by omega) (by decide)
        have hex : s.extract i (i + 1) = ⟨#[b]⟩ := by
          apply ext_bytes
          rw [Lib.extract_data]
          have e : s.data.toList.drop i = b :: s.data.toList.drop (i + 1) := by rw [List.drop_eq_getElem_cons (show i < s.data.toList.length from hlt), hb]
          rw [show i + 1 - i = 1 by omega, e]; rfl
        have hA : inSet keepSet b.toNat = true → Ev (fun k => if (i : Int) ≤ ((i + 1 : Nat) : Int) then (if ((i + 1 : Nat) : Int) ≤ (s.size : Int) then (if t.size + ((s.extract (i : Int).toNat (((i + 1 : Nat) : Int) : Int).toNat).size) ≤ 9223372036854775807 then (stolelaw9_UrlPlain.l0 k s (t ++ (s.extract (i : Int).toNat (((i + 1 : Nat) : Int) : Int).toNat)) ((i + 1 : Nat) : Int)) else (none)) else (none)) else (none)) true := by
          intro hk
          rw [Int.toNat_natCast, Int.toNat_natCast, hex]
          have e1 : (⟨#[b]⟩ : ByteArray).size = 1 := rfl
          refine Ev.pos (by omega) (Ev.pos (by omega) (Ev.pos (by rw [e1]; omega) ?_))
          refine ih (i + 1) _ (by omega) (fun x hx => ?_) (by rw [size_append, e1]; omega) (by omega)
          rw [data_append] at hx
          rcases List.mem_append.1 hx with hx | hx
          · exact hK x hx
          · rw [List.mem_singleton.1 hx]; exact hk
        have hN : Ev (fun k => stolelaw9_UrlPlain.l0 k s t ((i + 1 : Nat) : Int)) true := ih (i + 1) t (by omega) hK (by omega) (by omega)
        have hin := keep_in ⟨b.toNat, b.toNat_lt⟩
        simp only at hin
        refine Ev.step (f := fun k => _) (fun k => by rw [stolelaw9_UrlPlain.j1]) ?_
        rw [hw, hbt]
        refine Ev.pos rfl (Ev.pos (by omega) (Ev.pos (by omega) (Ev.bindC (ltr_all ⟨b.toNat, b.toNat_lt⟩) ?_)))
        by_cases q1 : ltr b.toNat = true
        · exact Ev.pos q1 (hA (hin (.inl q1)))
        refine Ev.neg q1 (Ev.bindC (dgt_all ⟨b.toNat, b.toNat_lt⟩) ?_)
        by_cases q2 : dgt b.toNat = true
        · exact Ev.pos q2 (hA (hin (.inr (.inl q2))))
        refine Ev.neg q2 ?_
        by_cases q3 : b.toNat = 45
        · exact Ev.pos (by omega) (hA (hin (.inr (.inr (.inl q3)))))
        refine Ev.neg (by omega) ?_
        by_cases q4 : b.toNat = 46
        · exact Ev.pos (by omega) (hA (hin (.inr (.inr (.inr (.inl q4))))))
        refine Ev.neg (by omega) ?_
        by_cases q5 : b.toNat = 95
        · exact Ev.pos (by omega) (hA (hin (.inr (.inr (.inr (.inr (.inl q5)))))))
        refine Ev.neg (by omega) ?_
        by_cases q6 : b.toNat = 126
        · exact Ev.pos (by omega) (hA (hin (.inr (.inr (.inr (.inr (.inr q6)))))))
        exact Ev.neg (by omega) hN
      · rw [decide_eq_false (show ¬ (i : Int) < 300 by omega)]
        exact plain_end s t hK (by omega) _
    · exact Ev.neg (by omega) (plain_end s t hK (by omega) _)
theorem UrlPlain : stolelaw9_UrlPlain.Pure := by
  intro s hs
  have hE : Ev (fun k => stolelaw9_UrlPlain.f k s) true := by
    unfold stolelaw9_UrlPlain.f
    refine Ev.bindC awake9 (Ev.pos rfl ?_)
    exact plain_l0 s (by omega) 301 0 ⟨#[]⟩ rfl (fun b hb => by cases hb) (Nat.le_refl _) (by omega)
  obtain ⟨n, hn⟩ := hE
  exact ⟨n, hn n (Nat.le_refl _)⟩
end Go.Proofs.YtfncppekjgbedaaDoor.Pure
