/- UrlSafe: the printed function's plain law. -/
import Derived.Test.YtfncppekjgbedaaDoorPTwice
import Derived.Test.YtfncppekjgbedaaDoorXU3
namespace Go.Proofs.YtfncppekjgbedaaDoor.Pure
open Go.RowKit Go.Proofs.YtfncppekjgbedaaDoor.XU Go.Proofs.YtfncppekjgbedaaDoor.Ext Go.Proofs.YtfncppekjgbedaaDoor.Sync Go.Proofs.YtfncppekjgbedaaDoor.Utf Go.Proofs.YtfncppekjgbedaaDoor.Base Go.Proofs.YtfncppekjgbedaaDoorW.PrintWords Go.Proofs.YtfncppekjgbedaaDoorW.PrintLast
set_option linter.unusedVariables false
set_option linter.unusedSimpArgs false

theorem more_safe : ∀ c : Fin 256, inSet moreSet c.val = true → 32 < c.val ∧ c.val < 127 ∧ c.val ≠ 34 ∧ c.val ≠ 39 ∧ c.val ≠ 60 ∧ c.val ≠ 62 := by decide +kernel
theorem keep_safe : ∀ c : Fin 256, (inSet keepSet c.val = true ∨ c.val = 37) → 32 < c.val ∧ c.val < 127 ∧ c.val ≠ 58 ∧ c.val ≠ 47 ∧ c.val ≠ 63 ∧ c.val ≠ 35 ∧ c.val ≠ 38 ∧ c.val ≠ 34 ∧ c.val ≠ 39 := by decide +kernel
theorem start_sch (s : ByteArray) : schS (startS s) = schL (startS s).data.toList := by unfold schS; rw [cut_more _ (start_mem s)]
theorem part_sch (s : ByteArray) : schS (partS s) = schL (partS s).data.toList := by unfold schS; rw [cut_more _ (part_more s)]
theorem part_58 (s : ByteArray) : (58 : UInt8) ∉ (partS s).data.toList := by
  intro h
  have h2 := part_mem s 58 h
  have := keep_safe ⟨58, by decide⟩ (h2.elim (fun h => .inl h) (fun h => by cases h))
  exact this.2.2.1 rfl
theorem part_no (s : ByteArray) : (schS (partS s)).2 = false := by
  rw [part_sch, Bool.eq_false_iff]
  intro hq
  obtain ⟨p, r, h1, _⟩ := sch_inv _ hq
  exact part_58 s (by rw [h1]; simp)
theorem start_alw (s : ByteArray) (h : (schS (startS s)).2 = true) : alw (schS (startS s)).1 = true := by
  rw [start_sch] at h ⊢
  have e : (startS s).data.toList = if (schS (normS s)).2 = true ∧ alw (schS (normS s)).1 = false then refused else wrL moreSet (normS s).data.toList := rfl
  rw [e] at h ⊢
  split at h
  · have hr : (schL refused).2 = false := by decide +kernel
    rw [hr] at h; cases h
  · rename_i hn
    rw [if_neg hn]
    have h2 := sch_written _ h
    rw [← h2] at h ⊢
    rw [← Bool.not_eq_false]
    exact fun h3 => hn ⟨h, h3⟩
/-- Side by side: no scheme but the first one's. -/
theorem both_sch (s t : ByteArray) (h : (schS (startS s ++ partS t)).2 = true) : (schS (startS s)).2 = true ∧ (schS (startS s ++ partS t)).1 = (schS (startS s)).1 := by
  have hm : ∀ b ∈ (startS s ++ partS t).data.toList, inSet moreSet b.toNat = true := by
    intro b hb
    rw [data_append] at hb
    rcases List.mem_append.1 hb with hb | hb
    · exact start_mem s b hb
    · exact part_more t b hb
  have e : schS (startS s ++ partS t) = schL ((startS s).data.toList ++ (partS t).data.toList) := by unfold schS; rw [cut_more _ hm, data_append]
  rw [e] at h ⊢
  rw [start_sch]
  obtain ⟨p, r, h1, h2, h3, h4, h5⟩ := sch_inv _ h
  have h58 := part_58 t
  obtain ⟨a, ha1, ha2⟩ | ⟨a, ha1, ha2⟩ := List.append_eq_append_iff.1 h1
  · -- p = x ++ a
    cases a with
    | nil =>
      exact absurd (by rw [List.nil_append] at ha2; rw [ha2]; exact List.mem_cons_self) h58
    | cons c a =>
      exact absurd (by rw [ha2]; simp) h58
  · cases a with
    | nil => exact absurd (by rw [List.nil_append] at ha2; rw [← ha2]; exact List.mem_cons_self) h58
    | cons c a =>
      injection ha2 with hc hr
      subst hc
      rw [h5, ha1, sch_some p a h2 h3 h4]
      exact ⟨rfl, rfl⟩
theorem safe_l1 (s t : ByteArray) (hx : (startS s).size ≤ 10000000000000) (hy : (partS t).size ≤ 10000000000000) : ∀ d i, i + d = (partS t).size →
    Ev (fun k => stolelaw9_UrlSafe.l1 k (startS s) (partS t) ⟨(schS (startS s)).1.toArray⟩ (schS (startS s)).2 (i : Int)) true := by
  intro d
  induction d with
  | zero =>
    intro i hi
    have hz : (startS s ++ partS t).size ≤ 140737488355328 := by rw [size_append]; omega
    refine Ev.step (f := fun k => _) (fun k => by rw [stolelaw9_UrlSafe.l1]) ?_
    refine Ev.neg (by omega) (Ev.pos (by omega) (Ev.bindC (scheme_f _ hz) ?_))
    by_cases h : (schS (startS s ++ partS t)).2 = true
    · obtain ⟨h1, h2⟩ := both_sch s t h
      refine Ev.pos h (Ev.pos h1 (Ev.ofSome ?_))
      rw [h2, ne_list]; simp
    · exact Ev.neg h (Ev.ofSome rfl)
  | succ d ih =>
    intro i hi
    have hlt : i < (partS t).size := by omega
    obtain ⟨b, hb, hbt⟩ := bt_at (partS t) i hlt
    have hm := part_mem t b (by rw [← hb]; exact List.getElem_mem _)
    have hs := keep_safe ⟨b.toNat, b.toNat_lt⟩ (hm.elim .inl (fun e => .inr (by rw [e]; rfl)))
    simp only at hs
    have h := ih (i + 1) (by omega)
    refine Ev.step (f := fun k => _) (fun k => by rw [stolelaw9_UrlSafe.l1]) ?_
    rw [hbt, wrap_next (n := 100000000000000) (by omega) (by decide)]
    exact Ev.pos (by omega) (Ev.pos (by omega) (Ev.neg (by omega) (Ev.neg (by omega) (Ev.neg (by omega) (Ev.neg (by omega) (Ev.neg (by omega) (Ev.neg (by omega) (Ev.neg (by omega) (Ev.neg (by omega) (Ev.neg (by omega) h))))))))))
theorem safe_l0 (s t : ByteArray) (hx : (startS s).size ≤ 10000000000000) (hy : (partS t).size ≤ 10000000000000) : ∀ d i, i + d = (startS s).size →
    Ev (fun k => stolelaw9_UrlSafe.l0 k (startS s) (partS t) ⟨(schS (startS s)).1.toArray⟩ (schS (startS s)).2 (i : Int)) true := by
  intro d
  induction d with
  | zero =>
    intro i hi
    refine Ev.step (f := fun k => _) (fun k => by rw [stolelaw9_UrlSafe.l0]) ?_
    exact Ev.neg (by omega) (safe_l1 s t hx hy (partS t).size 0 (by omega))
  | succ d ih =>
    intro i hi
    have hlt : i < (startS s).size := by omega
    obtain ⟨b, hb, hbt⟩ := bt_at (startS s) i hlt
    have hs := more_safe ⟨b.toNat, b.toNat_lt⟩ (start_mem s b (by rw [← hb]; exact List.getElem_mem _))
    simp only at hs
    have h := ih (i + 1) (by omega)
    refine Ev.step (f := fun k => _) (fun k => by rw [stolelaw9_UrlSafe.l0]) ?_
    rw [hbt, wrap_next (n := 100000000000000) (by omega) (by decide)]
    exact Ev.pos (by omega) (Ev.pos (by omega) (Ev.neg (by omega) (Ev.neg (by omega) (Ev.neg (by omega) (Ev.neg (by omega) (Ev.neg (by omega) (Ev.neg (by omega) h)))))))
theorem UrlSafe (s t : ByteArray) (_ : s.size ≤ 140737488351232) (_ : t.size ≤ 140737488351232) (hb : s.size + t.size ≤ 1048576) : ∃ k, stolelaw9_UrlSafe.f k s t = some true := by
  have h1 := start_size s
  have h2 := part_size t
  have hj : Ev (fun k => stolelaw9_UrlSafe.j0 k (startS s) (partS t) ⟨(schS (startS s)).1.toArray⟩ (schS (startS s)).2 false) true := by
    refine Ev.step (f := fun k => _) (fun k => by rw [stolelaw9_UrlSafe.j0]) ?_
    exact Ev.neg (by decide) (safe_l0 s t (by omega) (by omega) (startS s).size 0 (by omega))
  have hE : Ev (fun k => stolelaw9_UrlSafe.f k s t) true := by
    unfold stolelaw9_UrlSafe.f
    refine Ev.bindC awake9 (Ev.pos rfl (Ev.bindC (start_f s (by omega)) (Ev.bindC (part_f t (by omega)) (Ev.bindC (scheme_f (startS s) (by omega)) (Ev.bindC (scheme_f (partS t) (by omega)) ?_)))))
    simp only [part_no]
    by_cases q : (schS (startS s)).2 = true
    · refine Ev.pos q ?_
      have ha := start_alw s q
      unfold alw at ha
      have el : (⟨(schS (startS s)).1.toArray⟩ : ByteArray).toList = (schS (startS s)).1 := by rw [list_eq]
      rw [el]
      by_cases q1 : (schS (startS s)).1 = [104, 116, 116, 112]
      · exact Ev.pos q1 hj
      refine Ev.neg q1 ?_
      by_cases q2 : (schS (startS s)).1 = [104, 116, 116, 112, 115]
      · exact Ev.pos q2 hj
      refine Ev.neg q2 ?_
      by_cases q3 : (schS (startS s)).1 = [109, 97, 105, 108, 116, 111]
      · exact Ev.pos q3 hj
      refine Ev.neg q3 ?_
      by_cases q4 : (schS (startS s)).1 = [116, 101, 108]
      · exact Ev.pos q4 hj
      · simp only [Bool.or_eq_true, beq_iff_eq] at ha
        exact absurd ha (by rintro (((h | h) | h) | h); exact q1 h; exact q2 h; exact q3 h; exact q4 h)
    · exact Ev.neg q hj
  obtain ⟨n, hn⟩ := hE
  exact ⟨n, hn n (Nat.le_refl _)⟩
end Go.Proofs.YtfncppekjgbedaaDoor.Pure
