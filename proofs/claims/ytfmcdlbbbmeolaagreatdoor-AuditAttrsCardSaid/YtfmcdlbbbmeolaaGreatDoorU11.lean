/- tok's machine, plain: where a byte leads (a table of what is needed), what holds on the way. tok's machine, plain: what holds ahead of each byte. -/
import Derived.Test.YtfmcdlbbbmeolaaGreatDoorU0
import Derived.Test.YtfmcdlbbbmeolaaGreatDoorU7
import Derived.Test.YtfmcdlbbbmeolaaGreatDoorU9
import Derived.Test.YtfmcdlbbbmeolaaGreatDoorU10
section
namespace Go.Proofs.YtfmcdlbbbmeolaaGreatDoor.Tk
open Go.RowKit Go.Proofs.YtfmcdlbbbmeolaaGreatDoor.XK Go.Proofs.YtfmcdlbbbmeolaaGreatDoorW.PrintWords Go.Proofs.YtfmcdlbbbmeolaaGreatDoorW.PrintLast Go.Proofs.YtfmcdlbbbmeolaaGreatDoorW.PrintMore
open Go.Proofs.YtfmcdlbbbmeolaaGreatDoor.Refs (lowN decL)
set_option linter.unusedVariables false
set_option linter.unusedSimpArgs false
set_option maxRecDepth 100000
def need (k : Int) : Nat := if k = 13 then 2 else if k = 14 then 3 else if k = 15 then 4 else if k = 16 then 5 else if k = 17 then 6 else if k = 18 then 2 else 1
structure Tab (s : St) (c : Nat) (n : St) : Prop where
  rng : 0 ≤ n.pos ∧ n.pos ≤ 22
  step : s.pos ≠ 0 → s.pos ≠ 19 → n.pos ≠ 0 → n.pos ≠ 19 → need n.pos ≤ need s.pos + 1
  attr : 6 ≤ n.pos → n.pos ≤ 10 → 5 ≤ s.pos ∧ s.pos ≤ 10
  dat : s.pos = 0 ∨ s.pos = 19 → (n.pos = 0 ∨ n.pos = 19) ∨ (c = 60 ∧ (n.pos = 1 ∨ n.pos = 20))
  ends : c = 62 → endsB s = true → n.pos = 0 ∨ n.pos = 19
  rem : c = 62 → remarksB s = true → n.pos = 0
  sz : s.name.size ≤ 32 → s.held.size ≤ 32 → s.attr.size ≤ 32 → n.name.size ≤ 32 ∧ n.held.size ≤ 32 ∧ n.attr.size ≤ 32
theorem more_sz (nm : ByteArray) (c : Nat) (h : nm.size ≤ 32) : (moreS nm c).size ≤ 32 := by
  unfold moreS
  split
  · exact h
  · rw [ByteArray.size_append]; show nm.size + 1 ≤ 32; omega
theorem blank62 : blankN 62 = false := rfl
theorem between_cases (s : St) (c : Nat) (x : Int) : (c ≠ 62 ∧ betweenS s c x = some (inS s x)) ∨ (c ≠ 62 ∧ betweenS s c x = some (inS s 12)) ∨ (c = 62 ∧ betweenS s c x = some (closesS s)) ∨ (c ≠ 62 ∧ betweenS s c x = none) := by
  unfold betweenS
  by_cases h1 : blankN c = true
  · left; refine ⟨?_, if_pos h1⟩
    rintro rfl; rw [blank62] at h1; exact absurd h1 (by simp)
  · rw [if_neg h1]
    by_cases h2 : c = 47
    · right; left; exact ⟨by omega, if_pos h2⟩
    · rw [if_neg h2]
      by_cases h3 : c = 62
      · right; right; left; exact ⟨h3, if_pos h3⟩
      · right; right; right; exact ⟨h3, if_neg h3⟩
theorem closes_cases (s : St) : closesS s = atS 0 ∨ closesS s = ⟨19, ⟨#[]⟩, false, ⟨#[]⟩, s.name, 0⟩ := by
  unfold closesS
  repeat' split
  all_goals first | exact .inl rfl | exact .inr rfl
theorem empty_sz : ByteArray.size ⟨#[]⟩ = 0 := rfl
theorem one_sz (c : Nat) : (moreS ⟨#[]⟩ c).size ≤ 32 := more_sz _ _ (by decide)
section
variable {s : St} {c : Nat}
theorem tab_at (k j : Int) (hk : s.pos = k) (hr : 0 ≤ j ∧ j ≤ 22) (h1 : k ≠ 0 → k ≠ 19 → j ≠ 0 → j ≠ 19 → need j ≤ need k + 1) (h2 : 6 ≤ j → j ≤ 10 → 5 ≤ k ∧ k ≤ 10)
    (h3 : k = 0 ∨ k = 19 → (j = 0 ∨ j = 19) ∨ (c = 60 ∧ (j = 1 ∨ j = 20))) (h4 : c = 62 → endsB s = true → j = 0 ∨ j = 19) (h5 : c = 62 → remarksB s = true → j = 0)
    (nm : ByteArray) (f : Bool) (a h : ByteArray) (r : Int) (hs : s.name.size ≤ 32 → s.held.size ≤ 32 → s.attr.size ≤ 32 → nm.size ≤ 32 ∧ h.size ≤ 32 ∧ a.size ≤ 32) : Tab s c ⟨j, nm, f, a, h, r⟩ :=
  ⟨hr, by rw [hk]; exact h1, by rw [hk]; exact h2, by rw [hk]; exact h3, h4, h5, hs⟩
theorem ends_no (k : Int) (hk : s.pos = k) (h : k ≠ 3 ∧ k ≠ 4 ∧ k ≠ 5 ∧ k ≠ 6 ∧ k ≠ 7 ∧ k ≠ 10 ∧ k ≠ 11 ∧ k ≠ 12 ∧ k ≠ 22) : endsB s = true → False := by
  unfold endsB; rw [hk, if_neg (by omega), if_neg (by omega)]; simp
theorem rem_no (k : Int) (hk : s.pos = k) (h : k ≠ 13 ∧ k ≠ 14 ∧ k ≠ 18 ∧ k ≠ 17) : remarksB s = true → False := by
  unfold remarksB; rw [hk, if_neg (by omega)]; simp
end
theorem tab0 (s : St) (c : Nat) (hp : s.pos = 0) : Tab s c (stepS s c) := by
  rw [stepS_0 c hp]
  unfold dataS
  split
  · exact tab_at 0 1 hp (by decide) (by decide) (by decide) (by first | (intro h; exact absurd h (by decide)) | (intro _; left; decide) | (intro _; right; exact ⟨by assumption, by decide⟩)) (fun _ h => (ends_no 0 hp (by decide) h).elim) (fun _ h => (rem_no 0 hp (by decide) h).elim) _ _ _ _ _ (by intro a b d; simp only [empty_sz]; first | omega | (refine ⟨?_, ?_, ?_⟩ <;> first | omega | exact one_sz c | exact more_sz _ _ a | exact more_sz _ _ d | exact a | exact b | exact d))
  · exact tab_at 0 0 hp (by decide) (by decide) (by decide) (by first | (intro h; exact absurd h (by decide)) | (intro _; left; decide) | (intro _; right; exact ⟨by assumption, by decide⟩)) (fun _ h => (ends_no 0 hp (by decide) h).elim) (fun _ h => (rem_no 0 hp (by decide) h).elim) _ _ _ _ _ (by intro a b d; simp only [empty_sz]; first | omega | (refine ⟨?_, ?_, ?_⟩ <;> first | omega | exact one_sz c | exact more_sz _ _ a | exact more_sz _ _ d | exact a | exact b | exact d))
theorem tab1 (s : St) (c : Nat) (hp : s.pos = 1) : Tab s c (stepS s c) := by
  rw [stepS_1 c hp]
  unfold tagOpenS
  split
  · exact tab_at 1 3 hp (by decide) (by decide) (by decide) (by first | (intro h; exact absurd h (by decide)) | (intro _; left; decide) | (intro _; right; exact ⟨by assumption, by decide⟩)) (fun _ h => (ends_no 1 hp (by decide) h).elim) (fun _ h => (rem_no 1 hp (by decide) h).elim) _ _ _ _ _ (by intro a b d; simp only [empty_sz]; first | omega | (refine ⟨?_, ?_, ?_⟩ <;> first | omega | exact one_sz c | exact more_sz _ _ a | exact more_sz _ _ d | exact a | exact b | exact d))
  split
  · exact tab_at 1 2 hp (by decide) (by decide) (by decide) (by first | (intro h; exact absurd h (by decide)) | (intro _; left; decide) | (intro _; right; exact ⟨by assumption, by decide⟩)) (fun _ h => (ends_no 1 hp (by decide) h).elim) (fun _ h => (rem_no 1 hp (by decide) h).elim) _ _ _ _ _ (by intro a b d; simp only [empty_sz]; first | omega | (refine ⟨?_, ?_, ?_⟩ <;> first | omega | exact one_sz c | exact more_sz _ _ a | exact more_sz _ _ d | exact a | exact b | exact d))
  split
  · exact tab_at 1 13 hp (by decide) (by decide) (by decide) (by first | (intro h; exact absurd h (by decide)) | (intro _; left; decide) | (intro _; right; exact ⟨by assumption, by decide⟩)) (fun _ h => (ends_no 1 hp (by decide) h).elim) (fun _ h => (rem_no 1 hp (by decide) h).elim) _ _ _ _ _ (by intro a b d; simp only [empty_sz]; first | omega | (refine ⟨?_, ?_, ?_⟩ <;> first | omega | exact one_sz c | exact more_sz _ _ a | exact more_sz _ _ d | exact a | exact b | exact d))
  unfold dataS
  split
  · exact tab_at 1 1 hp (by decide) (by decide) (by decide) (by first | (intro h; exact absurd h (by decide)) | (intro _; left; decide) | (intro _; right; exact ⟨by assumption, by decide⟩)) (fun _ h => (ends_no 1 hp (by decide) h).elim) (fun _ h => (rem_no 1 hp (by decide) h).elim) _ _ _ _ _ (by intro a b d; simp only [empty_sz]; first | omega | (refine ⟨?_, ?_, ?_⟩ <;> first | omega | exact one_sz c | exact more_sz _ _ a | exact more_sz _ _ d | exact a | exact b | exact d))
  · exact tab_at 1 0 hp (by decide) (by decide) (by decide) (by first | (intro h; exact absurd h (by decide)) | (intro _; left; decide) | (intro _; right; exact ⟨by assumption, by decide⟩)) (fun _ h => (ends_no 1 hp (by decide) h).elim) (fun _ h => (rem_no 1 hp (by decide) h).elim) _ _ _ _ _ (by intro a b d; simp only [empty_sz]; first | omega | (refine ⟨?_, ?_, ?_⟩ <;> first | omega | exact one_sz c | exact more_sz _ _ a | exact more_sz _ _ d | exact a | exact b | exact d))
theorem tab2 (s : St) (c : Nat) (hp : s.pos = 2) : Tab s c (stepS s c) := by
  rw [stepS_2 c hp]
  unfold endOpenS
  split
  · exact tab_at 2 3 hp (by decide) (by decide) (by decide) (by first | (intro h; exact absurd h (by decide)) | (intro _; left; decide) | (intro _; right; exact ⟨by assumption, by decide⟩)) (fun _ h => (ends_no 2 hp (by decide) h).elim) (fun _ h => (rem_no 2 hp (by decide) h).elim) _ _ _ _ _ (by intro a b d; simp only [empty_sz]; first | omega | (refine ⟨?_, ?_, ?_⟩ <;> first | omega | exact one_sz c | exact more_sz _ _ a | exact more_sz _ _ d | exact a | exact b | exact d))
  unfold dataS
  split
  · exact tab_at 2 1 hp (by decide) (by decide) (by decide) (by first | (intro h; exact absurd h (by decide)) | (intro _; left; decide) | (intro _; right; exact ⟨by assumption, by decide⟩)) (fun _ h => (ends_no 2 hp (by decide) h).elim) (fun _ h => (rem_no 2 hp (by decide) h).elim) _ _ _ _ _ (by intro a b d; simp only [empty_sz]; first | omega | (refine ⟨?_, ?_, ?_⟩ <;> first | omega | exact one_sz c | exact more_sz _ _ a | exact more_sz _ _ d | exact a | exact b | exact d))
  · exact tab_at 2 0 hp (by decide) (by decide) (by decide) (by first | (intro h; exact absurd h (by decide)) | (intro _; left; decide) | (intro _; right; exact ⟨by assumption, by decide⟩)) (fun _ h => (ends_no 2 hp (by decide) h).elim) (fun _ h => (rem_no 2 hp (by decide) h).elim) _ _ _ _ _ (by intro a b d; simp only [empty_sz]; first | omega | (refine ⟨?_, ?_, ?_⟩ <;> first | omega | exact one_sz c | exact more_sz _ _ a | exact more_sz _ _ d | exact a | exact b | exact d))
theorem tab3 (s : St) (c : Nat) (hp : s.pos = 3) : Tab s c (stepS s c) := by
  rw [stepS_3 c hp]
  unfold tagNameS
  rcases between_cases s c 4 with ⟨hc, hb⟩ | ⟨hc, hb⟩ | ⟨hc, hb⟩ | ⟨hc, hb⟩
  · rw [hb]; exact tab_at 3 4 hp (by decide) (by decide) (by decide) (by first | (intro h; exact absurd h (by decide)) | (intro _; left; decide) | (intro _; right; exact ⟨by assumption, by decide⟩)) (fun h _ => absurd h (by omega)) (fun _ h => (rem_no 3 hp (by decide) h).elim) _ _ _ _ _ (by intro a b d; simp only [empty_sz]; first | omega | (refine ⟨?_, ?_, ?_⟩ <;> first | omega | exact one_sz c | exact more_sz _ _ a | exact more_sz _ _ d | exact a | exact b | exact d))
  · rw [hb]; exact tab_at 3 12 hp (by decide) (by decide) (by decide) (by first | (intro h; exact absurd h (by decide)) | (intro _; left; decide) | (intro _; right; exact ⟨by assumption, by decide⟩)) (fun h _ => absurd h (by omega)) (fun _ h => (rem_no 3 hp (by decide) h).elim) _ _ _ _ _ (by intro a b d; simp only [empty_sz]; first | omega | (refine ⟨?_, ?_, ?_⟩ <;> first | omega | exact one_sz c | exact more_sz _ _ a | exact more_sz _ _ d | exact a | exact b | exact d))
  · rw [hb]; simp only
    rcases closes_cases s with e | e
    · rw [e]; exact tab_at 3 0 hp (by decide) (by decide) (by decide) (by first | (intro h; exact absurd h (by decide)) | (intro _; left; decide) | (intro _; right; exact ⟨by assumption, by decide⟩)) (fun _ _ => by decide) (fun _ h => (rem_no 3 hp (by decide) h).elim) _ _ _ _ _ (by intro a b d; simp only [empty_sz]; first | omega | (refine ⟨?_, ?_, ?_⟩ <;> first | omega | exact one_sz c | exact more_sz _ _ a | exact more_sz _ _ d | exact a | exact b | exact d))
    · rw [e]; exact tab_at 3 19 hp (by decide) (by decide) (by decide) (by first | (intro h; exact absurd h (by decide)) | (intro _; left; decide) | (intro _; right; exact ⟨by assumption, by decide⟩)) (fun _ _ => by decide) (fun _ h => (rem_no 3 hp (by decide) h).elim) _ _ _ _ _ (by intro a b d; simp only [empty_sz]; first | omega | (refine ⟨?_, ?_, ?_⟩ <;> first | omega | exact one_sz c | exact more_sz _ _ a | exact more_sz _ _ d | exact a | exact b | exact d))
  · rw [hb]; exact tab_at 3 3 hp (by decide) (by decide) (by decide) (by first | (intro h; exact absurd h (by decide)) | (intro _; left; decide) | (intro _; right; exact ⟨by assumption, by decide⟩)) (fun h _ => absurd h (by omega)) (fun _ h => (rem_no 3 hp (by decide) h).elim) _ _ _ _ _ (by intro a b d; simp only [empty_sz]; first | omega | (refine ⟨?_, ?_, ?_⟩ <;> first | omega | exact one_sz c | exact more_sz _ _ a | exact more_sz _ _ d | exact a | exact b | exact d))
theorem tab4 (s : St) (c : Nat) (hp : s.pos = 4) : Tab s c (stepS s c) := by
  rw [stepS_4 c hp]
  unfold beginsS
  rcases between_cases s c 4 with ⟨hc, hb⟩ | ⟨hc, hb⟩ | ⟨hc, hb⟩ | ⟨hc, hb⟩
  · rw [hb]; exact tab_at 4 4 hp (by decide) (by decide) (by decide) (by first | (intro h; exact absurd h (by decide)) | (intro _; left; decide) | (intro _; right; exact ⟨by assumption, by decide⟩)) (fun h _ => absurd h (by omega)) (fun _ h => (rem_no 4 hp (by decide) h).elim) _ _ _ _ _ (by intro a b d; simp only [empty_sz]; first | omega | (refine ⟨?_, ?_, ?_⟩ <;> first | omega | exact one_sz c | exact more_sz _ _ a | exact more_sz _ _ d | exact a | exact b | exact d))
  · rw [hb]; exact tab_at 4 12 hp (by decide) (by decide) (by decide) (by first | (intro h; exact absurd h (by decide)) | (intro _; left; decide) | (intro _; right; exact ⟨by assumption, by decide⟩)) (fun h _ => absurd h (by omega)) (fun _ h => (rem_no 4 hp (by decide) h).elim) _ _ _ _ _ (by intro a b d; simp only [empty_sz]; first | omega | (refine ⟨?_, ?_, ?_⟩ <;> first | omega | exact one_sz c | exact more_sz _ _ a | exact more_sz _ _ d | exact a | exact b | exact d))
  · rw [hb]; simp only
    rcases closes_cases s with e | e
    · rw [e]; exact tab_at 4 0 hp (by decide) (by decide) (by decide) (by first | (intro h; exact absurd h (by decide)) | (intro _; left; decide) | (intro _; right; exact ⟨by assumption, by decide⟩)) (fun _ _ => by decide) (fun _ h => (rem_no 4 hp (by decide) h).elim) _ _ _ _ _ (by intro a b d; simp only [empty_sz]; first | omega | (refine ⟨?_, ?_, ?_⟩ <;> first | omega | exact one_sz c | exact more_sz _ _ a | exact more_sz _ _ d | exact a | exact b | exact d))
    · rw [e]; exact tab_at 4 19 hp (by decide) (by decide) (by decide) (by first | (intro h; exact absurd h (by decide)) | (intro _; left; decide) | (intro _; right; exact ⟨by assumption, by decide⟩)) (fun _ _ => by decide) (fun _ h => (rem_no 4 hp (by decide) h).elim) _ _ _ _ _ (by intro a b d; simp only [empty_sz]; first | omega | (refine ⟨?_, ?_, ?_⟩ <;> first | omega | exact one_sz c | exact more_sz _ _ a | exact more_sz _ _ d | exact a | exact b | exact d))
  · rw [hb]; exact tab_at 4 5 hp (by decide) (by decide) (by decide) (by first | (intro h; exact absurd h (by decide)) | (intro _; left; decide) | (intro _; right; exact ⟨by assumption, by decide⟩)) (fun h _ => absurd h (by omega)) (fun _ h => (rem_no 4 hp (by decide) h).elim) _ _ _ _ _ (by intro a b d; simp only [empty_sz]; first | omega | (refine ⟨?_, ?_, ?_⟩ <;> first | omega | exact one_sz c | exact more_sz _ _ a | exact more_sz _ _ d | exact a | exact b | exact d))
theorem tab11 (s : St) (c : Nat) (hp : s.pos = 11) : Tab s c (stepS s c) := by
  rw [stepS_11 c hp]
  unfold beginsS
  rcases between_cases s c 4 with ⟨hc, hb⟩ | ⟨hc, hb⟩ | ⟨hc, hb⟩ | ⟨hc, hb⟩
  · rw [hb]; exact tab_at 11 4 hp (by decide) (by decide) (by decide) (by first | (intro h; exact absurd h (by decide)) | (intro _; left; decide) | (intro _; right; exact ⟨by assumption, by decide⟩)) (fun h _ => absurd h (by omega)) (fun _ h => (rem_no 11 hp (by decide) h).elim) _ _ _ _ _ (by intro a b d; simp only [empty_sz]; first | omega | (refine ⟨?_, ?_, ?_⟩ <;> first | omega | exact one_sz c | exact more_sz _ _ a | exact more_sz _ _ d | exact a | exact b | exact d))
  · rw [hb]; exact tab_at 11 12 hp (by decide) (by decide) (by decide) (by first | (intro h; exact absurd h (by decide)) | (intro _; left; decide) | (intro _; right; exact ⟨by assumption, by decide⟩)) (fun h _ => absurd h (by omega)) (fun _ h => (rem_no 11 hp (by decide) h).elim) _ _ _ _ _ (by intro a b d; simp only [empty_sz]; first | omega | (refine ⟨?_, ?_, ?_⟩ <;> first | omega | exact one_sz c | exact more_sz _ _ a | exact more_sz _ _ d | exact a | exact b | exact d))
  · rw [hb]; simp only
    rcases closes_cases s with e | e
    · rw [e]; exact tab_at 11 0 hp (by decide) (by decide) (by decide) (by first | (intro h; exact absurd h (by decide)) | (intro _; left; decide) | (intro _; right; exact ⟨by assumption, by decide⟩)) (fun _ _ => by decide) (fun _ h => (rem_no 11 hp (by decide) h).elim) _ _ _ _ _ (by intro a b d; simp only [empty_sz]; first | omega | (refine ⟨?_, ?_, ?_⟩ <;> first | omega | exact one_sz c | exact more_sz _ _ a | exact more_sz _ _ d | exact a | exact b | exact d))
    · rw [e]; exact tab_at 11 19 hp (by decide) (by decide) (by decide) (by first | (intro h; exact absurd h (by decide)) | (intro _; left; decide) | (intro _; right; exact ⟨by assumption, by decide⟩)) (fun _ _ => by decide) (fun _ h => (rem_no 11 hp (by decide) h).elim) _ _ _ _ _ (by intro a b d; simp only [empty_sz]; first | omega | (refine ⟨?_, ?_, ?_⟩ <;> first | omega | exact one_sz c | exact more_sz _ _ a | exact more_sz _ _ d | exact a | exact b | exact d))
  · rw [hb]; exact tab_at 11 5 hp (by decide) (by decide) (by decide) (by first | (intro h; exact absurd h (by decide)) | (intro _; left; decide) | (intro _; right; exact ⟨by assumption, by decide⟩)) (fun h _ => absurd h (by omega)) (fun _ h => (rem_no 11 hp (by decide) h).elim) _ _ _ _ _ (by intro a b d; simp only [empty_sz]; first | omega | (refine ⟨?_, ?_, ?_⟩ <;> first | omega | exact one_sz c | exact more_sz _ _ a | exact more_sz _ _ d | exact a | exact b | exact d))
theorem tab12 (s : St) (c : Nat) (hp : s.pos = 12) : Tab s c (stepS s c) := by
  rw [stepS_12 c hp]
  unfold beginsS
  rcases between_cases s c 4 with ⟨hc, hb⟩ | ⟨hc, hb⟩ | ⟨hc, hb⟩ | ⟨hc, hb⟩
  · rw [hb]; exact tab_at 12 4 hp (by decide) (by decide) (by decide) (by first | (intro h; exact absurd h (by decide)) | (intro _; left; decide) | (intro _; right; exact ⟨by assumption, by decide⟩)) (fun h _ => absurd h (by omega)) (fun _ h => (rem_no 12 hp (by decide) h).elim) _ _ _ _ _ (by intro a b d; simp only [empty_sz]; first | omega | (refine ⟨?_, ?_, ?_⟩ <;> first | omega | exact one_sz c | exact more_sz _ _ a | exact more_sz _ _ d | exact a | exact b | exact d))
  · rw [hb]; exact tab_at 12 12 hp (by decide) (by decide) (by decide) (by first | (intro h; exact absurd h (by decide)) | (intro _; left; decide) | (intro _; right; exact ⟨by assumption, by decide⟩)) (fun h _ => absurd h (by omega)) (fun _ h => (rem_no 12 hp (by decide) h).elim) _ _ _ _ _ (by intro a b d; simp only [empty_sz]; first | omega | (refine ⟨?_, ?_, ?_⟩ <;> first | omega | exact one_sz c | exact more_sz _ _ a | exact more_sz _ _ d | exact a | exact b | exact d))
  · rw [hb]; simp only
    rcases closes_cases s with e | e
    · rw [e]; exact tab_at 12 0 hp (by decide) (by decide) (by decide) (by first | (intro h; exact absurd h (by decide)) | (intro _; left; decide) | (intro _; right; exact ⟨by assumption, by decide⟩)) (fun _ _ => by decide) (fun _ h => (rem_no 12 hp (by decide) h).elim) _ _ _ _ _ (by intro a b d; simp only [empty_sz]; first | omega | (refine ⟨?_, ?_, ?_⟩ <;> first | omega | exact one_sz c | exact more_sz _ _ a | exact more_sz _ _ d | exact a | exact b | exact d))
    · rw [e]; exact tab_at 12 19 hp (by decide) (by decide) (by decide) (by first | (intro h; exact absurd h (by decide)) | (intro _; left; decide) | (intro _; right; exact ⟨by assumption, by decide⟩)) (fun _ _ => by decide) (fun _ h => (rem_no 12 hp (by decide) h).elim) _ _ _ _ _ (by intro a b d; simp only [empty_sz]; first | omega | (refine ⟨?_, ?_, ?_⟩ <;> first | omega | exact one_sz c | exact more_sz _ _ a | exact more_sz _ _ d | exact a | exact b | exact d))
  · rw [hb]; exact tab_at 12 5 hp (by decide) (by decide) (by decide) (by first | (intro h; exact absurd h (by decide)) | (intro _; left; decide) | (intro _; right; exact ⟨by assumption, by decide⟩)) (fun h _ => absurd h (by omega)) (fun _ h => (rem_no 12 hp (by decide) h).elim) _ _ _ _ _ (by intro a b d; simp only [empty_sz]; first | omega | (refine ⟨?_, ?_, ?_⟩ <;> first | omega | exact one_sz c | exact more_sz _ _ a | exact more_sz _ _ d | exact a | exact b | exact d))
theorem tab5 (s : St) (c : Nat) (hp : s.pos = 5) : Tab s c (stepS s c) := by
  rw [stepS_5 c hp]
  unfold namesS
  by_cases h1 : blankN c = true
  · rw [if_pos h1]; have hc : c ≠ 62 := (by rintro rfl; rw [blank62] at h1; exact absurd h1 (by simp))
    exact tab_at 5 6 hp (by decide) (by decide) (by decide) (by first | (intro h; exact absurd h (by decide)) | (intro _; left; decide) | (intro _; right; exact ⟨by assumption, by decide⟩)) (fun h _ => absurd h (by omega)) (fun _ h => (rem_no 5 hp (by decide) h).elim) _ _ _ _ _ (by intro a b d; simp only [empty_sz]; first | omega | (refine ⟨?_, ?_, ?_⟩ <;> first | omega | exact one_sz c | exact more_sz _ _ a | exact more_sz _ _ d | exact a | exact b | exact d))
  rw [if_neg h1]
  by_cases h2 : c = 61
  · rw [if_pos h2]; exact tab_at 5 7 hp (by decide) (by decide) (by decide) (by first | (intro h; exact absurd h (by decide)) | (intro _; left; decide) | (intro _; right; exact ⟨by assumption, by decide⟩)) (fun h _ => absurd h (by omega)) (fun _ h => (rem_no 5 hp (by decide) h).elim) _ _ _ _ _ (by intro a b d; simp only [empty_sz]; first | omega | (refine ⟨?_, ?_, ?_⟩ <;> first | omega | exact one_sz c | exact more_sz _ _ a | exact more_sz _ _ d | exact a | exact b | exact d))
  rw [if_neg h2]
  rcases between_cases s c 0 with ⟨hc, hb⟩ | ⟨hc, hb⟩ | ⟨hc, hb⟩ | ⟨hc, hb⟩
  · rw [hb]; exact tab_at 5 0 hp (by decide) (by decide) (by decide) (by first | (intro h; exact absurd h (by decide)) | (intro _; left; decide) | (intro _; right; exact ⟨by assumption, by decide⟩)) (fun h _ => absurd h (by omega)) (fun _ h => (rem_no 5 hp (by decide) h).elim) _ _ _ _ _ (by intro a b d; simp only [empty_sz]; first | omega | (refine ⟨?_, ?_, ?_⟩ <;> first | omega | exact one_sz c | exact more_sz _ _ a | exact more_sz _ _ d | exact a | exact b | exact d))
  · rw [hb]; exact tab_at 5 12 hp (by decide) (by decide) (by decide) (by first | (intro h; exact absurd h (by decide)) | (intro _; left; decide) | (intro _; right; exact ⟨by assumption, by decide⟩)) (fun h _ => absurd h (by omega)) (fun _ h => (rem_no 5 hp (by decide) h).elim) _ _ _ _ _ (by intro a b d; simp only [empty_sz]; first | omega | (refine ⟨?_, ?_, ?_⟩ <;> first | omega | exact one_sz c | exact more_sz _ _ a | exact more_sz _ _ d | exact a | exact b | exact d))
  · rw [hb]; simp only
    rcases closes_cases s with e | e
    · rw [e]; exact tab_at 5 0 hp (by decide) (by decide) (by decide) (by first | (intro h; exact absurd h (by decide)) | (intro _; left; decide) | (intro _; right; exact ⟨by assumption, by decide⟩)) (fun _ _ => by decide) (fun _ h => (rem_no 5 hp (by decide) h).elim) _ _ _ _ _ (by intro a b d; simp only [empty_sz]; first | omega | (refine ⟨?_, ?_, ?_⟩ <;> first | omega | exact one_sz c | exact more_sz _ _ a | exact more_sz _ _ d | exact a | exact b | exact d))
    · rw [e]; exact tab_at 5 19 hp (by decide) (by decide) (by decide) (by first | (intro h; exact absurd h (by decide)) | (intro _; left; decide) | (intro _; right; exact ⟨by assumption, by decide⟩)) (fun _ _ => by decide) (fun _ h => (rem_no 5 hp (by decide) h).elim) _ _ _ _ _ (by intro a b d; simp only [empty_sz]; first | omega | (refine ⟨?_, ?_, ?_⟩ <;> first | omega | exact one_sz c | exact more_sz _ _ a | exact more_sz _ _ d | exact a | exact b | exact d))
  · rw [hb]; exact tab_at 5 5 hp (by decide) (by decide) (by decide) (by first | (intro h; exact absurd h (by decide)) | (intro _; left; decide) | (intro _; right; exact ⟨by assumption, by decide⟩)) (fun h _ => absurd h (by omega)) (fun _ h => (rem_no 5 hp (by decide) h).elim) _ _ _ _ _ (by intro a b d; simp only [empty_sz]; first | omega | (refine ⟨?_, ?_, ?_⟩ <;> first | omega | exact one_sz c | exact more_sz _ _ a | exact more_sz _ _ d | exact a | exact b | exact d))
theorem tab6 (s : St) (c : Nat) (hp : s.pos = 6) : Tab s c (stepS s c) := by
  rw [stepS_6 c hp]
  unfold namesS
  by_cases h1 : blankN c = true
  · rw [if_pos h1]; have hc : c ≠ 62 := (by rintro rfl; rw [blank62] at h1; exact absurd h1 (by simp))
    exact tab_at 6 6 hp (by decide) (by decide) (by decide) (by first | (intro h; exact absurd h (by decide)) | (intro _; left; decide) | (intro _; right; exact ⟨by assumption, by decide⟩)) (fun h _ => absurd h (by omega)) (fun _ h => (rem_no 6 hp (by decide) h).elim) _ _ _ _ _ (by intro a b d; simp only [empty_sz]; first | omega | (refine ⟨?_, ?_, ?_⟩ <;> first | omega | exact one_sz c | exact more_sz _ _ a | exact more_sz _ _ d | exact a | exact b | exact d))
  rw [if_neg h1]
  by_cases h2 : c = 61
  · rw [if_pos h2]; exact tab_at 6 7 hp (by decide) (by decide) (by decide) (by first | (intro h; exact absurd h (by decide)) | (intro _; left; decide) | (intro _; right; exact ⟨by assumption, by decide⟩)) (fun h _ => absurd h (by omega)) (fun _ h => (rem_no 6 hp (by decide) h).elim) _ _ _ _ _ (by intro a b d; simp only [empty_sz]; first | omega | (refine ⟨?_, ?_, ?_⟩ <;> first | omega | exact one_sz c | exact more_sz _ _ a | exact more_sz _ _ d | exact a | exact b | exact d))
  rw [if_neg h2]
  rcases between_cases s c 0 with ⟨hc, hb⟩ | ⟨hc, hb⟩ | ⟨hc, hb⟩ | ⟨hc, hb⟩
  · rw [hb]; exact tab_at 6 0 hp (by decide) (by decide) (by decide) (by first | (intro h; exact absurd h (by decide)) | (intro _; left; decide) | (intro _; right; exact ⟨by assumption, by decide⟩)) (fun h _ => absurd h (by omega)) (fun _ h => (rem_no 6 hp (by decide) h).elim) _ _ _ _ _ (by intro a b d; simp only [empty_sz]; first | omega | (refine ⟨?_, ?_, ?_⟩ <;> first | omega | exact one_sz c | exact more_sz _ _ a | exact more_sz _ _ d | exact a | exact b | exact d))
  · rw [hb]; exact tab_at 6 12 hp (by decide) (by decide) (by decide) (by first | (intro h; exact absurd h (by decide)) | (intro _; left; decide) | (intro _; right; exact ⟨by assumption, by decide⟩)) (fun h _ => absurd h (by omega)) (fun _ h => (rem_no 6 hp (by decide) h).elim) _ _ _ _ _ (by intro a b d; simp only [empty_sz]; first | omega | (refine ⟨?_, ?_, ?_⟩ <;> first | omega | exact one_sz c | exact more_sz _ _ a | exact more_sz _ _ d | exact a | exact b | exact d))
  · rw [hb]; simp only
    rcases closes_cases s with e | e
    · rw [e]; exact tab_at 6 0 hp (by decide) (by decide) (by decide) (by first | (intro h; exact absurd h (by decide)) | (intro _; left; decide) | (intro _; right; exact ⟨by assumption, by decide⟩)) (fun _ _ => by decide) (fun _ h => (rem_no 6 hp (by decide) h).elim) _ _ _ _ _ (by intro a b d; simp only [empty_sz]; first | omega | (refine ⟨?_, ?_, ?_⟩ <;> first | omega | exact one_sz c | exact more_sz _ _ a | exact more_sz _ _ d | exact a | exact b | exact d))
    · rw [e]; exact tab_at 6 19 hp (by decide) (by decide) (by decide) (by first | (intro h; exact absurd h (by decide)) | (intro _; left; decide) | (intro _; right; exact ⟨by assumption, by decide⟩)) (fun _ _ => by decide) (fun _ h => (rem_no 6 hp (by decide) h).elim) _ _ _ _ _ (by intro a b d; simp only [empty_sz]; first | omega | (refine ⟨?_, ?_, ?_⟩ <;> first | omega | exact one_sz c | exact more_sz _ _ a | exact more_sz _ _ d | exact a | exact b | exact d))
  · rw [hb]; exact tab_at 6 5 hp (by decide) (by decide) (by decide) (by first | (intro h; exact absurd h (by decide)) | (intro _; left; decide) | (intro _; right; exact ⟨by assumption, by decide⟩)) (fun h _ => absurd h (by omega)) (fun _ h => (rem_no 6 hp (by decide) h).elim) _ _ _ _ _ (by intro a b d; simp only [empty_sz]; first | omega | (refine ⟨?_, ?_, ?_⟩ <;> first | omega | exact one_sz c | exact more_sz _ _ a | exact more_sz _ _ d | exact a | exact b | exact d))
theorem tab7 (s : St) (c : Nat) (hp : s.pos = 7) : Tab s c (stepS s c) := by
  rw [stepS_7 c hp]
  unfold beforeValueS
  by_cases h1 : blankN c = true
  · rw [if_pos h1]; have hc : c ≠ 62 := (by rintro rfl; rw [blank62] at h1; exact absurd h1 (by simp))
    exact tab_at 7 7 hp (by decide) (by decide) (by decide) (by first | (intro h; exact absurd h (by decide)) | (intro _; left; decide) | (intro _; right; exact ⟨by assumption, by decide⟩)) (fun h _ => absurd h (by omega)) (fun _ h => (rem_no 7 hp (by decide) h).elim) _ _ _ _ _ (by intro a b d; simp only [empty_sz]; first | omega | (refine ⟨?_, ?_, ?_⟩ <;> first | omega | exact one_sz c | exact more_sz _ _ a | exact more_sz _ _ d | exact a | exact b | exact d))
  rw [if_neg h1]
  by_cases h34 : c = 34
  · rw [if_pos h34]; exact tab_at 7 8 hp (by decide) (by decide) (by decide) (by first | (intro h; exact absurd h (by decide)) | (intro _; left; decide) | (intro _; right; exact ⟨by assumption, by decide⟩)) (fun h _ => absurd h (by omega)) (fun _ h => (rem_no 7 hp (by decide) h).elim) _ _ _ _ _ (by intro a b d; simp only [empty_sz]; first | omega | (refine ⟨?_, ?_, ?_⟩ <;> first | omega | exact one_sz c | exact more_sz _ _ a | exact more_sz _ _ d | exact a | exact b | exact d))
  rw [if_neg h34]
  by_cases h39 : c = 39
  · rw [if_pos h39]; exact tab_at 7 9 hp (by decide) (by decide) (by decide) (by first | (intro h; exact absurd h (by decide)) | (intro _; left; decide) | (intro _; right; exact ⟨by assumption, by decide⟩)) (fun h _ => absurd h (by omega)) (fun _ h => (rem_no 7 hp (by decide) h).elim) _ _ _ _ _ (by intro a b d; simp only [empty_sz]; first | omega | (refine ⟨?_, ?_, ?_⟩ <;> first | omega | exact one_sz c | exact more_sz _ _ a | exact more_sz _ _ d | exact a | exact b | exact d))
  rw [if_neg h39]
  by_cases h62 : c = 62
  · rw [if_pos h62]
    rcases closes_cases s with e | e
    · rw [e]; exact tab_at 7 0 hp (by decide) (by decide) (by decide) (by first | (intro h; exact absurd h (by decide)) | (intro _; left; decide) | (intro _; right; exact ⟨by assumption, by decide⟩)) (fun _ _ => by decide) (fun _ h => (rem_no 7 hp (by decide) h).elim) _ _ _ _ _ (by intro a b d; simp only [empty_sz]; first | omega | (refine ⟨?_, ?_, ?_⟩ <;> first | omega | exact one_sz c | exact more_sz _ _ a | exact more_sz _ _ d | exact a | exact b | exact d))
    · rw [e]; exact tab_at 7 19 hp (by decide) (by decide) (by decide) (by first | (intro h; exact absurd h (by decide)) | (intro _; left; decide) | (intro _; right; exact ⟨by assumption, by decide⟩)) (fun _ _ => by decide) (fun _ h => (rem_no 7 hp (by decide) h).elim) _ _ _ _ _ (by intro a b d; simp only [empty_sz]; first | omega | (refine ⟨?_, ?_, ?_⟩ <;> first | omega | exact one_sz c | exact more_sz _ _ a | exact more_sz _ _ d | exact a | exact b | exact d))
  rw [if_neg h62]
  exact tab_at 7 10 hp (by decide) (by decide) (by decide) (by first | (intro h; exact absurd h (by decide)) | (intro _; left; decide) | (intro _; right; exact ⟨by assumption, by decide⟩)) (fun h _ => absurd h (by omega)) (fun _ h => (rem_no 7 hp (by decide) h).elim) _ _ _ _ _ (by intro a b d; simp only [empty_sz]; first | omega | (refine ⟨?_, ?_, ?_⟩ <;> first | omega | exact one_sz c | exact more_sz _ _ a | exact more_sz _ _ d | exact a | exact b | exact d))
theorem tab8 (s : St) (c : Nat) (hp : s.pos = 8) : Tab s c (stepS s c) := by
  rw [stepS_8 c hp]
  unfold quotedS
  split
  · exact tab_at 8 11 hp (by decide) (by decide) (by decide) (by first | (intro h; exact absurd h (by decide)) | (intro _; left; decide) | (intro _; right; exact ⟨by assumption, by decide⟩)) (fun _ h => (ends_no 8 hp (by decide) h).elim) (fun _ h => (rem_no 8 hp (by decide) h).elim) _ _ _ _ _ (by intro a b d; simp only [empty_sz]; first | omega | (refine ⟨?_, ?_, ?_⟩ <;> first | omega | exact one_sz c | exact more_sz _ _ a | exact more_sz _ _ d | exact a | exact b | exact d))
  · unfold attrS; rw [hp]; exact tab_at 8 8 hp (by decide) (by decide) (by decide) (by first | (intro h; exact absurd h (by decide)) | (intro _; left; decide) | (intro _; right; exact ⟨by assumption, by decide⟩)) (fun _ h => (ends_no 8 hp (by decide) h).elim) (fun _ h => (rem_no 8 hp (by decide) h).elim) _ _ _ _ _ (by intro a b d; simp only [empty_sz]; first | omega | (refine ⟨?_, ?_, ?_⟩ <;> first | omega | exact one_sz c | exact more_sz _ _ a | exact more_sz _ _ d | exact a | exact b | exact d))
theorem tab9 (s : St) (c : Nat) (hp : s.pos = 9) : Tab s c (stepS s c) := by
  rw [stepS_9 c hp]
  unfold quotedS
  split
  · exact tab_at 9 11 hp (by decide) (by decide) (by decide) (by first | (intro h; exact absurd h (by decide)) | (intro _; left; decide) | (intro _; right; exact ⟨by assumption, by decide⟩)) (fun _ h => (ends_no 9 hp (by decide) h).elim) (fun _ h => (rem_no 9 hp (by decide) h).elim) _ _ _ _ _ (by intro a b d; simp only [empty_sz]; first | omega | (refine ⟨?_, ?_, ?_⟩ <;> first | omega | exact one_sz c | exact more_sz _ _ a | exact more_sz _ _ d | exact a | exact b | exact d))
  · unfold attrS; rw [hp]; exact tab_at 9 9 hp (by decide) (by decide) (by decide) (by first | (intro h; exact absurd h (by decide)) | (intro _; left; decide) | (intro _; right; exact ⟨by assumption, by decide⟩)) (fun _ h => (ends_no 9 hp (by decide) h).elim) (fun _ h => (rem_no 9 hp (by decide) h).elim) _ _ _ _ _ (by intro a b d; simp only [empty_sz]; first | omega | (refine ⟨?_, ?_, ?_⟩ <;> first | omega | exact one_sz c | exact more_sz _ _ a | exact more_sz _ _ d | exact a | exact b | exact d))
theorem tab10 (s : St) (c : Nat) (hp : s.pos = 10) : Tab s c (stepS s c) := by
  rw [stepS_10 c hp]
  unfold bareS
  by_cases h1 : blankN c = true
  · rw [if_pos h1]; have hc : c ≠ 62 := (by rintro rfl; rw [blank62] at h1; exact absurd h1 (by simp))
    exact tab_at 10 4 hp (by decide) (by decide) (by decide) (by first | (intro h; exact absurd h (by decide)) | (intro _; left; decide) | (intro _; right; exact ⟨by assumption, by decide⟩)) (fun h _ => absurd h (by omega)) (fun _ h => (rem_no 10 hp (by decide) h).elim) _ _ _ _ _ (by intro a b d; simp only [empty_sz]; first | omega | (refine ⟨?_, ?_, ?_⟩ <;> first | omega | exact one_sz c | exact more_sz _ _ a | exact more_sz _ _ d | exact a | exact b | exact d))
  rw [if_neg h1]
  by_cases h62 : c = 62
  · rw [if_pos h62]
    rcases closes_cases s with e | e
    · rw [e]; exact tab_at 10 0 hp (by decide) (by decide) (by decide) (by first | (intro h; exact absurd h (by decide)) | (intro _; left; decide) | (intro _; right; exact ⟨by assumption, by decide⟩)) (fun _ _ => by decide) (fun _ h => (rem_no 10 hp (by decide) h).elim) _ _ _ _ _ (by intro a b d; simp only [empty_sz]; first | omega | (refine ⟨?_, ?_, ?_⟩ <;> first | omega | exact one_sz c | exact more_sz _ _ a | exact more_sz _ _ d | exact a | exact b | exact d))
    · rw [e]; exact tab_at 10 19 hp (by decide) (by decide) (by decide) (by first | (intro h; exact absurd h (by decide)) | (intro _; left; decide) | (intro _; right; exact ⟨by assumption, by decide⟩)) (fun _ _ => by decide) (fun _ h => (rem_no 10 hp (by decide) h).elim) _ _ _ _ _ (by intro a b d; simp only [empty_sz]; first | omega | (refine ⟨?_, ?_, ?_⟩ <;> first | omega | exact one_sz c | exact more_sz _ _ a | exact more_sz _ _ d | exact a | exact b | exact d))
  rw [if_neg h62]
  exact tab_at 10 10 hp (by decide) (by decide) (by decide) (by first | (intro h; exact absurd h (by decide)) | (intro _; left; decide) | (intro _; right; exact ⟨by assumption, by decide⟩)) (fun h _ => absurd h (by omega)) (fun _ h => (rem_no 10 hp (by decide) h).elim) _ _ _ _ _ (by intro a b d; simp only [empty_sz]; first | omega | (refine ⟨?_, ?_, ?_⟩ <;> first | omega | exact one_sz c | exact more_sz _ _ a | exact more_sz _ _ d | exact a | exact b | exact d))
theorem tab13 (s : St) (c : Nat) (hp : s.pos = 13) : Tab s c (stepS s c) := by
  rw [stepS_13 c hp]
  unfold bangsS
  by_cases h1 : c = 45
  · rw [if_pos h1]; exact tab_at 13 14 hp (by decide) (by decide) (by decide) (by first | (intro h; exact absurd h (by decide)) | (intro _; left; decide) | (intro _; right; exact ⟨by assumption, by decide⟩)) (fun _ h => (ends_no 13 hp (by decide) h).elim) (fun h _ => absurd h (by omega)) _ _ _ _ _ (by intro a b d; simp only [empty_sz]; first | omega | (refine ⟨?_, ?_, ?_⟩ <;> first | omega | exact one_sz c | exact more_sz _ _ a | exact more_sz _ _ d | exact a | exact b | exact d))
  rw [if_neg h1]
  by_cases h2 : c = 62
  · rw [if_pos h2]; exact tab_at 13 0 hp (by decide) (by decide) (by decide) (by first | (intro h; exact absurd h (by decide)) | (intro _; left; decide) | (intro _; right; exact ⟨by assumption, by decide⟩)) (fun _ h => (ends_no 13 hp (by decide) h).elim) (fun _ _ => by decide) _ _ _ _ _ (by intro a b d; simp only [empty_sz]; first | omega | (refine ⟨?_, ?_, ?_⟩ <;> first | omega | exact one_sz c | exact more_sz _ _ a | exact more_sz _ _ d | exact a | exact b | exact d))
  rw [if_neg h2]
  exact tab_at 13 18 hp (by decide) (by decide) (by decide) (by first | (intro h; exact absurd h (by decide)) | (intro _; left; decide) | (intro _; right; exact ⟨by assumption, by decide⟩)) (fun _ h => (ends_no 13 hp (by decide) h).elim) (fun h _ => absurd h (by omega)) _ _ _ _ _ (by intro a b d; simp only [empty_sz]; first | omega | (refine ⟨?_, ?_, ?_⟩ <;> first | omega | exact one_sz c | exact more_sz _ _ a | exact more_sz _ _ d | exact a | exact b | exact d))
theorem tab14 (s : St) (c : Nat) (hp : s.pos = 14) : Tab s c (stepS s c) := by
  rw [stepS_14 c hp]
  unfold bangsS
  by_cases h1 : c = 45
  · rw [if_pos h1]; exact tab_at 14 15 hp (by decide) (by decide) (by decide) (by first | (intro h; exact absurd h (by decide)) | (intro _; left; decide) | (intro _; right; exact ⟨by assumption, by decide⟩)) (fun _ h => (ends_no 14 hp (by decide) h).elim) (fun h _ => absurd h (by omega)) _ _ _ _ _ (by intro a b d; simp only [empty_sz]; first | omega | (refine ⟨?_, ?_, ?_⟩ <;> first | omega | exact one_sz c | exact more_sz _ _ a | exact more_sz _ _ d | exact a | exact b | exact d))
  rw [if_neg h1]
  by_cases h2 : c = 62
  · rw [if_pos h2]; exact tab_at 14 0 hp (by decide) (by decide) (by decide) (by first | (intro h; exact absurd h (by decide)) | (intro _; left; decide) | (intro _; right; exact ⟨by assumption, by decide⟩)) (fun _ h => (ends_no 14 hp (by decide) h).elim) (fun _ _ => by decide) _ _ _ _ _ (by intro a b d; simp only [empty_sz]; first | omega | (refine ⟨?_, ?_, ?_⟩ <;> first | omega | exact one_sz c | exact more_sz _ _ a | exact more_sz _ _ d | exact a | exact b | exact d))
  rw [if_neg h2]
  exact tab_at 14 18 hp (by decide) (by decide) (by decide) (by first | (intro h; exact absurd h (by decide)) | (intro _; left; decide) | (intro _; right; exact ⟨by assumption, by decide⟩)) (fun _ h => (ends_no 14 hp (by decide) h).elim) (fun h _ => absurd h (by omega)) _ _ _ _ _ (by intro a b d; simp only [empty_sz]; first | omega | (refine ⟨?_, ?_, ?_⟩ <;> first | omega | exact one_sz c | exact more_sz _ _ a | exact more_sz _ _ d | exact a | exact b | exact d))
theorem tab15 (s : St) (c : Nat) (hp : s.pos = 15) : Tab s c (stepS s c) := by
  rw [stepS_15 c hp]
  unfold commentS eitherS
  split
  · rw [if_pos rfl]; exact tab_at 15 16 hp (by decide) (by decide) (by decide) (by first | (intro h; exact absurd h (by decide)) | (intro _; left; decide) | (intro _; right; exact ⟨by assumption, by decide⟩)) (fun _ h => (ends_no 15 hp (by decide) h).elim) (fun _ h => (rem_no 15 hp (by decide) h).elim) _ _ _ _ _ (by intro a b d; simp only [empty_sz]; first | omega | (refine ⟨?_, ?_, ?_⟩ <;> first | omega | exact one_sz c | exact more_sz _ _ a | exact more_sz _ _ d | exact a | exact b | exact d))
  · rw [if_neg (by simp)]; exact tab_at 15 15 hp (by decide) (by decide) (by decide) (by first | (intro h; exact absurd h (by decide)) | (intro _; left; decide) | (intro _; right; exact ⟨by assumption, by decide⟩)) (fun _ h => (ends_no 15 hp (by decide) h).elim) (fun _ h => (rem_no 15 hp (by decide) h).elim) _ _ _ _ _ (by intro a b d; simp only [empty_sz]; first | omega | (refine ⟨?_, ?_, ?_⟩ <;> first | omega | exact one_sz c | exact more_sz _ _ a | exact more_sz _ _ d | exact a | exact b | exact d))
theorem tab16 (s : St) (c : Nat) (hp : s.pos = 16) : Tab s c (stepS s c) := by
  rw [stepS_16 c hp]
  unfold commentDashS eitherS
  split
  · rw [if_pos rfl]; exact tab_at 16 17 hp (by decide) (by decide) (by decide) (by first | (intro h; exact absurd h (by decide)) | (intro _; left; decide) | (intro _; right; exact ⟨by assumption, by decide⟩)) (fun _ h => (ends_no 16 hp (by decide) h).elim) (fun _ h => (rem_no 16 hp (by decide) h).elim) _ _ _ _ _ (by intro a b d; simp only [empty_sz]; first | omega | (refine ⟨?_, ?_, ?_⟩ <;> first | omega | exact one_sz c | exact more_sz _ _ a | exact more_sz _ _ d | exact a | exact b | exact d))
  · rw [if_neg (by simp)]; exact tab_at 16 15 hp (by decide) (by decide) (by decide) (by first | (intro h; exact absurd h (by decide)) | (intro _; left; decide) | (intro _; right; exact ⟨by assumption, by decide⟩)) (fun _ h => (ends_no 16 hp (by decide) h).elim) (fun _ h => (rem_no 16 hp (by decide) h).elim) _ _ _ _ _ (by intro a b d; simp only [empty_sz]; first | omega | (refine ⟨?_, ?_, ?_⟩ <;> first | omega | exact one_sz c | exact more_sz _ _ a | exact more_sz _ _ d | exact a | exact b | exact d))
theorem tab17 (s : St) (c : Nat) (hp : s.pos = 17) : Tab s c (stepS s c) := by
  rw [stepS_17 c hp]
  unfold commentEndS eitherS
  by_cases h2 : c = 62
  · rw [if_pos h2]; exact tab_at 17 0 hp (by decide) (by decide) (by decide) (by first | (intro h; exact absurd h (by decide)) | (intro _; left; decide) | (intro _; right; exact ⟨by assumption, by decide⟩)) (fun _ h => (ends_no 17 hp (by decide) h).elim) (fun _ _ => by decide) _ _ _ _ _ (by intro a b d; simp only [empty_sz]; first | omega | (refine ⟨?_, ?_, ?_⟩ <;> first | omega | exact one_sz c | exact more_sz _ _ a | exact more_sz _ _ d | exact a | exact b | exact d))
  rw [if_neg h2]
  split
  · rw [if_pos rfl]; exact tab_at 17 17 hp (by decide) (by decide) (by decide) (by first | (intro h; exact absurd h (by decide)) | (intro _; left; decide) | (intro _; right; exact ⟨by assumption, by decide⟩)) (fun _ h => (ends_no 17 hp (by decide) h).elim) (fun h _ => absurd h (by omega)) _ _ _ _ _ (by intro a b d; simp only [empty_sz]; first | omega | (refine ⟨?_, ?_, ?_⟩ <;> first | omega | exact one_sz c | exact more_sz _ _ a | exact more_sz _ _ d | exact a | exact b | exact d))
  · rw [if_neg (by simp)]; exact tab_at 17 15 hp (by decide) (by decide) (by decide) (by first | (intro h; exact absurd h (by decide)) | (intro _; left; decide) | (intro _; right; exact ⟨by assumption, by decide⟩)) (fun _ h => (ends_no 17 hp (by decide) h).elim) (fun h _ => absurd h (by omega)) _ _ _ _ _ (by intro a b d; simp only [empty_sz]; first | omega | (refine ⟨?_, ?_, ?_⟩ <;> first | omega | exact one_sz c | exact more_sz _ _ a | exact more_sz _ _ d | exact a | exact b | exact d))
theorem tab18 (s : St) (c : Nat) (hp : s.pos = 18) : Tab s c (stepS s c) := by
  rw [stepS_18 c hp]
  unfold bogusS eitherS
  by_cases h2 : c = 62
  · rw [if_pos h2, if_pos rfl]; exact tab_at 18 0 hp (by decide) (by decide) (by decide) (by first | (intro h; exact absurd h (by decide)) | (intro _; left; decide) | (intro _; right; exact ⟨by assumption, by decide⟩)) (fun _ h => (ends_no 18 hp (by decide) h).elim) (fun _ _ => by decide) _ _ _ _ _ (by intro a b d; simp only [empty_sz]; first | omega | (refine ⟨?_, ?_, ?_⟩ <;> first | omega | exact one_sz c | exact more_sz _ _ a | exact more_sz _ _ d | exact a | exact b | exact d))
  rw [if_neg h2, if_neg (by simp)]
  exact tab_at 18 18 hp (by decide) (by decide) (by decide) (by first | (intro h; exact absurd h (by decide)) | (intro _; left; decide) | (intro _; right; exact ⟨by assumption, by decide⟩)) (fun _ h => (ends_no 18 hp (by decide) h).elim) (fun h _ => absurd h (by omega)) _ _ _ _ _ (by intro a b d; simp only [empty_sz]; first | omega | (refine ⟨?_, ?_, ?_⟩ <;> first | omega | exact one_sz c | exact more_sz _ _ a | exact more_sz _ _ d | exact a | exact b | exact d))
theorem tab19 (s : St) (c : Nat) (hp : s.pos = 19) : Tab s c (stepS s c) := by
  rw [stepS_19 c hp]
  unfold holdsS
  by_cases h60 : c = 60
  · rw [if_pos h60]; exact tab_at 19 20 hp (by decide) (by decide) (by decide) (by first | (intro h; exact absurd h (by decide)) | (intro _; left; decide) | (intro _; right; exact ⟨by assumption, by decide⟩)) (fun _ h => (ends_no 19 hp (by decide) h).elim) (fun _ h => (rem_no 19 hp (by decide) h).elim) _ _ _ _ _ (by intro a b d; simp only [empty_sz]; first | omega | (refine ⟨?_, ?_, ?_⟩ <;> first | omega | exact one_sz c | exact more_sz _ _ a | exact more_sz _ _ d | exact a | exact b | exact d))
  · rw [if_neg h60]; exact tab_at 19 19 hp (by decide) (by decide) (by decide) (by first | (intro h; exact absurd h (by decide)) | (intro _; left; decide) | (intro _; right; exact ⟨by assumption, by decide⟩)) (fun _ h => (ends_no 19 hp (by decide) h).elim) (fun _ h => (rem_no 19 hp (by decide) h).elim) _ _ _ _ _ (by intro a b d; simp only [empty_sz]; first | omega | (refine ⟨?_, ?_, ?_⟩ <;> first | omega | exact one_sz c | exact more_sz _ _ a | exact more_sz _ _ d | exact a | exact b | exact d))
theorem tab20 (s : St) (c : Nat) (hp : s.pos = 20) : Tab s c (stepS s c) := by
  rw [stepS_20 c hp]
  unfold heldLtS
  by_cases h1 : c = 47
  · rw [if_pos h1]; exact tab_at 20 21 hp (by decide) (by decide) (by decide) (by first | (intro h; exact absurd h (by decide)) | (intro _; left; decide) | (intro _; right; exact ⟨by assumption, by decide⟩)) (fun _ h => (ends_no 20 hp (by decide) h).elim) (fun _ h => (rem_no 20 hp (by decide) h).elim) _ _ _ _ _ (by intro a b d; simp only [empty_sz]; first | omega | (refine ⟨?_, ?_, ?_⟩ <;> first | omega | exact one_sz c | exact more_sz _ _ a | exact more_sz _ _ d | exact a | exact b | exact d))
  rw [if_neg h1]
  unfold holdsS
  by_cases h60 : c = 60
  · rw [if_pos h60]; exact tab_at 20 20 hp (by decide) (by decide) (by decide) (by first | (intro h; exact absurd h (by decide)) | (intro _; left; decide) | (intro _; right; exact ⟨by assumption, by decide⟩)) (fun _ h => (ends_no 20 hp (by decide) h).elim) (fun _ h => (rem_no 20 hp (by decide) h).elim) _ _ _ _ _ (by intro a b d; simp only [empty_sz]; first | omega | (refine ⟨?_, ?_, ?_⟩ <;> first | omega | exact one_sz c | exact more_sz _ _ a | exact more_sz _ _ d | exact a | exact b | exact d))
  · rw [if_neg h60]; exact tab_at 20 19 hp (by decide) (by decide) (by decide) (by first | (intro h; exact absurd h (by decide)) | (intro _; left; decide) | (intro _; right; exact ⟨by assumption, by decide⟩)) (fun _ h => (ends_no 20 hp (by decide) h).elim) (fun _ h => (rem_no 20 hp (by decide) h).elim) _ _ _ _ _ (by intro a b d; simp only [empty_sz]; first | omega | (refine ⟨?_, ?_, ?_⟩ <;> first | omega | exact one_sz c | exact more_sz _ _ a | exact more_sz _ _ d | exact a | exact b | exact d))
theorem tab21 (s : St) (c : Nat) (hp : s.pos = 21) : Tab s c (stepS s c) := by
  rw [stepS_21 c hp]
  unfold readsS
  split
  · exact tab_at 21 22 hp (by decide) (by decide) (by decide) (by first | (intro h; exact absurd h (by decide)) | (intro _; left; decide) | (intro _; right; exact ⟨by assumption, by decide⟩)) (fun _ h => (ends_no 21 hp (by decide) h).elim) (fun _ h => (rem_no 21 hp (by decide) h).elim) _ _ _ _ _ (by intro a b d; simp only [empty_sz]; first | omega | (refine ⟨?_, ?_, ?_⟩ <;> first | omega | exact one_sz c | exact more_sz _ _ a | exact more_sz _ _ d | exact a | exact b | exact d))
  · skip
    unfold holdsS
    by_cases h60 : c = 60
    · rw [if_pos h60]; exact tab_at 21 20 hp (by decide) (by decide) (by decide) (by first | (intro h; exact absurd h (by decide)) | (intro _; left; decide) | (intro _; right; exact ⟨by assumption, by decide⟩)) (fun _ h => (ends_no 21 hp (by decide) h).elim) (fun _ h => (rem_no 21 hp (by decide) h).elim) _ _ _ _ _ (by intro a b d; simp only [empty_sz]; first | omega | (refine ⟨?_, ?_, ?_⟩ <;> first | omega | exact one_sz c | exact more_sz _ _ a | exact more_sz _ _ d | exact a | exact b | exact d))
    · rw [if_neg h60]; exact tab_at 21 19 hp (by decide) (by decide) (by decide) (by first | (intro h; exact absurd h (by decide)) | (intro _; left; decide) | (intro _; right; exact ⟨by assumption, by decide⟩)) (fun _ h => (ends_no 21 hp (by decide) h).elim) (fun _ h => (rem_no 21 hp (by decide) h).elim) _ _ _ _ _ (by intro a b d; simp only [empty_sz]; first | omega | (refine ⟨?_, ?_, ?_⟩ <;> first | omega | exact one_sz c | exact more_sz _ _ a | exact more_sz _ _ d | exact a | exact b | exact d))
theorem tab22 (s : St) (c : Nat) (hp : s.pos = 22) : Tab s c (stepS s c) := by
  rw [stepS_22 c hp]
  unfold heldNameS
  by_cases hr : s.read < s.held.size
  · rw [if_pos hr]
    unfold readsS
    split
    · exact tab_at 22 22 hp (by decide) (by decide) (by decide) (by first | (intro h; exact absurd h (by decide)) | (intro _; left; decide) | (intro _; right; exact ⟨by assumption, by decide⟩)) (fun _ h => absurd h (by unfold endsB; rw [if_neg (by omega), if_pos hp]; simp; omega)) (fun _ h => (rem_no 22 hp (by decide) h).elim) _ _ _ _ _ (by intro a b d; simp only [empty_sz]; first | omega | (refine ⟨?_, ?_, ?_⟩ <;> first | omega | exact one_sz c | exact more_sz _ _ a | exact more_sz _ _ d | exact a | exact b | exact d))
    · skip
      unfold holdsS
      by_cases h60 : c = 60
      · rw [if_pos h60]; exact tab_at 22 20 hp (by decide) (by decide) (by decide) (by first | (intro h; exact absurd h (by decide)) | (intro _; left; decide) | (intro _; right; exact ⟨by assumption, by decide⟩)) (fun _ h => absurd h (by unfold endsB; rw [if_neg (by omega), if_pos hp]; simp; omega)) (fun _ h => (rem_no 22 hp (by decide) h).elim) _ _ _ _ _ (by intro a b d; simp only [empty_sz]; first | omega | (refine ⟨?_, ?_, ?_⟩ <;> first | omega | exact one_sz c | exact more_sz _ _ a | exact more_sz _ _ d | exact a | exact b | exact d))
      · rw [if_neg h60]; exact tab_at 22 19 hp (by decide) (by decide) (by decide) (by first | (intro h; exact absurd h (by decide)) | (intro _; left; decide) | (intro _; right; exact ⟨by assumption, by decide⟩)) (fun _ h => absurd h (by unfold endsB; rw [if_neg (by omega), if_pos hp]; simp; omega)) (fun _ h => (rem_no 22 hp (by decide) h).elim) _ _ _ _ _ (by intro a b d; simp only [empty_sz]; first | omega | (refine ⟨?_, ?_, ?_⟩ <;> first | omega | exact one_sz c | exact more_sz _ _ a | exact more_sz _ _ d | exact a | exact b | exact d))
  · rw [if_neg hr]
    rcases between_cases (⟨0, s.held, true, ⟨#[]⟩, ⟨#[]⟩, 0⟩ : St) c 4 with ⟨hc, hb⟩ | ⟨hc, hb⟩ | ⟨hc, hb⟩ | ⟨hc, hb⟩
    · rw [hb]; exact tab_at 22 4 hp (by decide) (by decide) (by decide) (by first | (intro h; exact absurd h (by decide)) | (intro _; left; decide) | (intro _; right; exact ⟨by assumption, by decide⟩)) (fun h _ => absurd h (by omega)) (fun _ h => (rem_no 22 hp (by decide) h).elim) _ _ _ _ _ (by intro a b d; simp only [empty_sz]; first | omega | (refine ⟨?_, ?_, ?_⟩ <;> first | omega | exact one_sz c | exact more_sz _ _ a | exact more_sz _ _ d | exact a | exact b | exact d))
    · rw [hb]; exact tab_at 22 12 hp (by decide) (by decide) (by decide) (by first | (intro h; exact absurd h (by decide)) | (intro _; left; decide) | (intro _; right; exact ⟨by assumption, by decide⟩)) (fun h _ => absurd h (by omega)) (fun _ h => (rem_no 22 hp (by decide) h).elim) _ _ _ _ _ (by intro a b d; simp only [empty_sz]; first | omega | (refine ⟨?_, ?_, ?_⟩ <;> first | omega | exact one_sz c | exact more_sz _ _ a | exact more_sz _ _ d | exact a | exact b | exact d))
    · rw [hb]; simp only; rw [show closesS (⟨0, s.held, true, ⟨#[]⟩, ⟨#[]⟩, 0⟩ : St) = atS 0 from rfl]; exact tab_at 22 0 hp (by decide) (by decide) (by decide) (by first | (intro h; exact absurd h (by decide)) | (intro _; left; decide) | (intro _; right; exact ⟨by assumption, by decide⟩)) (fun _ _ => by decide) (fun _ h => (rem_no 22 hp (by decide) h).elim) _ _ _ _ _ (by intro a b d; simp only [empty_sz]; first | omega | (refine ⟨?_, ?_, ?_⟩ <;> first | omega | exact one_sz c | exact more_sz _ _ a | exact more_sz _ _ d | exact a | exact b | exact d))
    · rw [hb]; simp only
      unfold holdsS
      by_cases h60 : c = 60
      · rw [if_pos h60]; exact tab_at 22 20 hp (by decide) (by decide) (by decide) (by first | (intro h; exact absurd h (by decide)) | (intro _; left; decide) | (intro _; right; exact ⟨by assumption, by decide⟩)) (fun h _ => absurd h (by omega)) (fun _ h => (rem_no 22 hp (by decide) h).elim) _ _ _ _ _ (by intro a b d; simp only [empty_sz]; first | omega | (refine ⟨?_, ?_, ?_⟩ <;> first | omega | exact one_sz c | exact more_sz _ _ a | exact more_sz _ _ d | exact a | exact b | exact d))
      · rw [if_neg h60]; exact tab_at 22 19 hp (by decide) (by decide) (by decide) (by first | (intro h; exact absurd h (by decide)) | (intro _; left; decide) | (intro _; right; exact ⟨by assumption, by decide⟩)) (fun h _ => absurd h (by omega)) (fun _ h => (rem_no 22 hp (by decide) h).elim) _ _ _ _ _ (by intro a b d; simp only [empty_sz]; first | omega | (refine ⟨?_, ?_, ?_⟩ <;> first | omega | exact one_sz c | exact more_sz _ _ a | exact more_sz _ _ d | exact a | exact b | exact d))
theorem step_tab (s : St) (c : Nat) (h0 : 0 ≤ s.pos) (h1 : s.pos ≤ 22) : Tab s c (stepS s c) := by
  have hk : ∃ k : Nat, k ≤ 22 ∧ s.pos = k := ⟨s.pos.toNat, by omega, by omega⟩
  obtain ⟨k, hk, hp⟩ := hk
  have hcases : k = 0 ∨ k = 1 ∨ k = 2 ∨ k = 3 ∨ k = 4 ∨ k = 5 ∨ k = 6 ∨ k = 7 ∨ k = 8 ∨ k = 9 ∨ k = 10 ∨ k = 11 ∨ k = 12 ∨ k = 13 ∨ k = 14 ∨ k = 15 ∨ k = 16 ∨ k = 17 ∨ k = 18 ∨ k = 19 ∨ k = 20 ∨ k = 21 ∨ k = 22 := by omega
  rcases hcases with rfl | rfl | rfl | rfl | rfl | rfl | rfl | rfl | rfl | rfl | rfl | rfl | rfl | rfl | rfl | rfl | rfl | rfl | rfl | rfl | rfl | rfl | rfl
  · exact tab0 s c hp
  · exact tab1 s c hp
  · exact tab2 s c hp
  · exact tab3 s c hp
  · exact tab4 s c hp
  · exact tab5 s c hp
  · exact tab6 s c hp
  · exact tab7 s c hp
  · exact tab8 s c hp
  · exact tab9 s c hp
  · exact tab10 s c hp
  · exact tab11 s c hp
  · exact tab12 s c hp
  · exact tab13 s c hp
  · exact tab14 s c hp
  · exact tab15 s c hp
  · exact tab16 s c hp
  · exact tab17 s c hp
  · exact tab18 s c hp
  · exact tab19 s c hp
  · exact tab20 s c hp
  · exact tab21 s c hp
  · exact tab22 s c hp
structure Inv (p : ByteArray) (i : Nat) (r : Rd) (s : St) : Prop where
  rng : 0 ≤ s.pos ∧ s.pos ≤ 22
  fr : r.fr ≤ i
  out : r.out.length ≤ 2 * i
  ats : r.ats.length ≤ i
  vals : ∀ x ∈ r.ats, x.f1.size ≤ p.size
  open_ : s.pos ≠ 0 → s.pos ≠ 19 → r.fr ≤ r.op ∧ r.op + need s.pos ≤ i
  has : 5 ≤ s.pos → s.pos ≤ 10 → 0 < r.ats.length
  bg : 8 ≤ s.pos → s.pos ≤ 10 → r.bg ≤ i
  sz : s.name.size ≤ 32 ∧ s.held.size ≤ 32 ∧ s.attr.size ≤ 32
def rd0 : Rd := ⟨[], 0, 0, ⟨#[]⟩, [], 0⟩
theorem inv_start (p : ByteArray) : Inv p 0 rd0 (atS 0) := ⟨by decide, Nat.le_refl _, Nat.le_refl _, Nat.le_refl _, fun x hx => by simp [rd0] at hx, fun h => absurd rfl h, fun h => absurd h (by decide), fun h => absurd h (by decide), by decide⟩
theorem need_pos (k : Int) : 1 ≤ need k := by
  unfold need
  by_cases h1 : k = 13
  · rw [if_pos h1]; decide
  by_cases h2 : k = 14
  · rw [if_neg h1, if_pos h2]; decide
  by_cases h3 : k = 15
  · rw [if_neg h1, if_neg h2, if_pos h3]; decide
  by_cases h4 : k = 16
  · rw [if_neg h1, if_neg h2, if_neg h3, if_pos h4]; decide
  by_cases h5 : k = 17
  · rw [if_neg h1, if_neg h2, if_neg h3, if_neg h4, if_pos h5]; decide
  by_cases h6 : k = 18
  · rw [if_neg h1, if_neg h2, if_neg h3, if_neg h4, if_neg h5, if_pos h6]; decide
  rw [if_neg h1, if_neg h2, if_neg h3, if_neg h4, if_neg h5, if_neg h6]; decide
theorem textR_out (p : ByteArray) (r : Rd) (t : Nat) : (textR p r t).out.length ≤ r.out.length + 1 ∧ (textR p r t).fr = r.fr ∧ (textR p r t).op = r.op ∧ (textR p r t).ats = r.ats ∧ (textR p r t).bg = r.bg ∧ (textR p r t).held = r.held := by
  unfold textR; split <;> simp
theorem toldR_parts (p : ByteArray) (r : Rd) (t : S41) (i : Nat) : (toldR p r t i).out.length ≤ r.out.length + 2 ∧ (toldR p r t i).fr = i + 1 ∧ (toldR p r t i).ats = r.ats := by
  obtain ⟨h1, h2, h3, h4, h5, h6⟩ := textR_out p r r.op
  refine ⟨?_, rfl, h4⟩
  show ((textR p r r.op).out ++ [t]).length ≤ _
  rw [List.length_append, List.length_singleton]; omega
theorem setName_len (xs : List S39) (nm : ByteArray) : (setName xs nm).length = xs.length := by unfold setName; rw [List.length_set]
theorem setVal_len (xs : List S39) (v : ByteArray) : (setVal xs v).length = xs.length := by unfold setVal; rw [List.length_set]
theorem rd_vals (xs : List S39) (n : Nat) (h : ∀ x ∈ xs, x.f1.size ≤ n) : (rd_T39 xs ((xs.length : Int) - 1)).f1.size ≤ n := by
  unfold rd_T39
  rw [List.getD_eq_getElem?_getD]
  cases he : xs[((xs.length : Int) - 1).toNat]? with
  | none => exact Nat.zero_le _
  | some x => exact h x (List.mem_of_getElem? he)
theorem setName_vals (xs : List S39) (nm : ByteArray) (n : Nat) (h : ∀ x ∈ xs, x.f1.size ≤ n) : ∀ x ∈ setName xs nm, x.f1.size ≤ n := by
  intro x hx
  rcases List.mem_or_eq_of_mem_set hx with hx | rfl
  · exact h x hx
  · exact rd_vals xs n h
theorem setVal_vals (xs : List S39) (v : ByteArray) (n : Nat) (h : ∀ x ∈ xs, x.f1.size ≤ n) (hv : v.size ≤ n) : ∀ x ∈ setVal xs v, x.f1.size ≤ n := by
  intro x hx
  rcases List.mem_or_eq_of_mem_set hx with hx | rfl
  · exact h x hx
  · exact hv
theorem ext_sz (p : ByteArray) (a b : Nat) : (p.extract a b).size ≤ p.size := by rw [ByteArray.size_extract]; omega
theorem readsR_parts (p : ByteArray) (r : Rd) (s nx : St) (i : Nat) : (readsR p r s nx i).fr = r.fr ∧ (readsR p r s nx i).op = r.op ∧ (readsR p r s nx i).out = r.out ∧ (readsR p r s nx i).ats.length ≤ r.ats.length + 1 ∧
    ((∀ x ∈ r.ats, x.f1.size ≤ p.size) → ∀ x ∈ (readsR p r s nx i).ats, x.f1.size ≤ p.size) ∧ (nx.pos = 5 → 0 < r.ats.length ∨ s.pos ≠ 5 → 0 < (readsR p r s nx i).ats.length) ∧ (6 ≤ nx.pos → (readsR p r s nx i).ats.length = r.ats.length) ∧
    (8 ≤ nx.pos → nx.pos ≤ 10 → (s.pos = nx.pos → r.bg ≤ i) → (readsR p r s nx i).bg ≤ i + 1) := by
  unfold readsR
  by_cases h3 : nx.pos = 3
  · rw [if_pos h3]; exact ⟨rfl, rfl, rfl, Nat.zero_le _, fun _ x hx => by simp at hx, fun h => by omega, fun h => by omega, fun h => by omega⟩
  rw [if_neg h3]
  by_cases h5 : nx.pos = 5
  · rw [if_pos h5]
    by_cases s5 : s.pos = 5
    · rw [if_pos s5]; exact ⟨rfl, rfl, rfl, by rw [setName_len]; omega, fun h => setName_vals _ _ _ h, fun _ h => by rw [setName_len]; rcases h with h | h; exact h; exact absurd s5 h, fun h => by omega, fun h => by omega⟩
    · rw [if_neg s5]; exact ⟨rfl, rfl, rfl, by rw [setName_len]; simp, fun h => setName_vals _ _ _ (fun x hx => by rcases List.mem_append.1 hx with hx | hx; exact h x hx; simp at hx; subst hx; exact Nat.zero_le _), fun _ h => by rw [setName_len]; simp, fun h => by omega, fun h => by omega⟩
  rw [if_neg h5]
  by_cases h10 : nx.pos = 10
  · rw [if_pos h10]
    split
    · rename_i s10; exact ⟨rfl, rfl, rfl, by rw [setVal_len]; omega, fun h => setVal_vals _ _ _ h (ext_sz _ _ _), fun h => by omega, fun _ => setVal_len _ _, fun _ _ h => by have := h (by omega); show r.bg ≤ _; omega⟩
    · exact ⟨rfl, rfl, rfl, by rw [setVal_len]; omega, fun h => setVal_vals _ _ _ h (ext_sz _ _ _), fun h => by omega, fun _ => setVal_len _ _, fun _ _ h => Nat.le_succ _⟩
  rw [if_neg h10]
  by_cases h89 : nx.pos = 8 ∨ nx.pos = 9
  · rw [if_pos h89]
    split
    · rename_i s8; exact ⟨rfl, rfl, rfl, by rw [setVal_len]; omega, fun h => setVal_vals _ _ _ h (ext_sz _ _ _), fun h => by omega, fun _ => setVal_len _ _, fun _ _ h => by have := h s8; show r.bg ≤ _; omega⟩
    · exact ⟨rfl, rfl, rfl, by rw [setVal_len]; omega, fun h => setVal_vals _ _ _ h (ext_sz _ _ _), fun h => by omega, fun _ => setVal_len _ _, fun _ _ h => Nat.le_refl _⟩
  rw [if_neg h89]
  exact ⟨rfl, rfl, rfl, by omega, fun h => h, fun h => by omega, fun _ => rfl, fun _ _ _ => by omega⟩
structure Asks (p : ByteArray) (i : Nat) (r : Rd) (s nx : St) : Prop where
  ends : endsB s = true → r.fr ≤ r.op ∧ r.op ≤ i
  rem : remarksB s = true → r.fr ≤ r.op ∧ r.op + 2 ≤ i ∧ (s.pos = 17 → r.op + 6 ≤ i)
  has : 0 < r.ats.length ∨ (nx.pos = 5 ∧ s.pos ≠ 5) ∨ (nx.pos ≠ 5 ∧ nx.pos ≠ 8 ∧ nx.pos ≠ 9 ∧ nx.pos ≠ 10)
  bg : s.pos = nx.pos → (nx.pos = 8 ∨ nx.pos = 9 ∨ nx.pos = 10) → r.bg ≤ i
theorem ends_pos {s : St} (h : endsB s = true) : s.pos ≠ 0 ∧ s.pos ≠ 19 := by
  constructor
  · intro e; exact ends_no 0 e (by decide) h
  · intro e; exact ends_no 19 e (by decide) h
theorem rem_pos {s : St} (h : remarksB s = true) : s.pos = 13 ∨ s.pos = 14 ∨ s.pos = 18 ∨ s.pos = 17 := by
  unfold remarksB at h; split at h
  · assumption
  · exact absurd h (by simp)
theorem Inv.asks {p : ByteArray} {i : Nat} {r : Rd} {s : St} (h : Inv p i r s) {c : Nat} {nx : St} (t : Tab s c nx) : Asks p i r s nx := by
  refine ⟨fun he => ?_, fun he => ?_, ?_, fun e hn => ?_⟩
  · have := h.open_ (ends_pos he).1 (ends_pos he).2
    have := need_pos s.pos; omega
  · have hp := rem_pos he
    have := h.open_ (by omega) (by omega)
    have h2 : 2 ≤ need s.pos := by rcases hp with hp | hp | hp | hp <;> (rw [hp]; decide)
    refine ⟨this.1, by omega, fun h17 => ?_⟩
    rw [h17] at this; have h6 : need 17 = 6 := rfl; rw [h6] at this; exact this.2
  · by_cases n5 : nx.pos = 5
    · by_cases s5 : s.pos = 5
      · left; exact h.has (by omega) (by omega)
      · right; left; exact ⟨n5, s5⟩
    · by_cases hn : nx.pos = 8 ∨ nx.pos = 9 ∨ nx.pos = 10
      · left; have := t.attr (by omega) (by omega); exact h.has this.1 this.2
      · right; right; omega
  · exact h.bg (by omega) (by omega)
theorem inv_step {p : ByteArray} {i : Nat} {r : Rd} {s : St} (h : Inv p i r s) {nx : St} (hi : i < p.size) (t : Tab s (byteAt p (i : Int)) nx) : Inv p (i + 1) (takesR p r s nx i) nx := by
  have hsz := t.sz h.sz.1 h.sz.2.1 h.sz.2.2
  have hf := h.fr
  have ho := h.out
  have ha := h.ats
  have hA := h.asks t
  unfold takesR
  by_cases c1 : byteAt p (i : Int) = 60 ∧ (nx.pos = 1 ∨ nx.pos = 20)
  · rw [if_pos c1]
    have hn : need nx.pos = 1 := by rcases c1.2 with e | e <;> (rw [e]; decide)
    exact ⟨t.rng, by show r.fr ≤ _; omega, by show r.out.length ≤ _; omega, by show r.ats.length ≤ _; omega, h.vals, fun _ _ => ⟨hf, by rw [hn]; exact Nat.le_refl _⟩, fun h1 h2 => by omega, fun h1 h2 => by omega, hsz⟩
  rw [if_neg c1]
  by_cases c2 : byteAt p (i : Int) = 62 ∧ endsB s = true
  · rw [if_pos c2]
    have hn := t.ends c2.1 c2.2
    obtain ⟨p1, p2, p3⟩ := toldR_parts p r (tagT r s) i
    exact ⟨t.rng, by show (toldR p r (tagT r s) i).fr ≤ _; omega, by show (toldR p r (tagT r s) i).out.length ≤ _; omega, by show (toldR p r (tagT r s) i).ats.length ≤ _; rw [p3]; omega, by show ∀ x ∈ (toldR p r (tagT r s) i).ats, _; rw [p3]; exact h.vals, fun h1 h2 => by omega, fun h1 h2 => by omega, fun h1 h2 => by omega, hsz⟩
  rw [if_neg c2]
  by_cases c3 : byteAt p (i : Int) = 62 ∧ remarksB s = true
  · rw [if_pos c3]
    have hn := t.rem c3.1 c3.2
    obtain ⟨p1, p2, p3⟩ := toldR_parts p r (comT p r s i) i
    exact ⟨t.rng, by show (toldR p r (comT p r s i) i).fr ≤ _; omega, by show (toldR p r (comT p r s i) i).out.length ≤ _; omega, by show (toldR p r (comT p r s i) i).ats.length ≤ _; rw [p3]; omega, by show ∀ x ∈ (toldR p r (comT p r s i) i).ats, _; rw [p3]; exact h.vals, fun h1 h2 => by omega, fun h1 h2 => by omega, fun h1 h2 => by omega, hsz⟩
  rw [if_neg c3]
  obtain ⟨p1, p2, p3, p4, p5, p6, p7, p8⟩ := readsR_parts p r s nx i
  refine ⟨t.rng, by rw [p1]; omega, by rw [p3]; omega, by omega, p5 h.vals, fun h1 h2 => ?_, fun h1 h2 => ?_, fun h1 h2 => p8 h1 h2 (fun e => h.bg (by omega) (by omega)), hsz⟩
  · by_cases hs : s.pos = 0 ∨ s.pos = 19
    · rcases t.dat hs with hd | hd
      · omega
      · exact absurd hd c1
    · have := h.open_ (by omega) (by omega)
      have h3 := t.step (by omega) (by omega) h1 h2
      rw [p1, p2]; omega
  · by_cases n5 : nx.pos = 5
    · refine p6 n5 ?_
      rcases hA.has with ha | ha | ha
      · exact .inl ha
      · exact .inr ha.2
      · exact absurd n5 ha.1
    · rw [p7 (by omega)]
      have := t.attr (by omega) h2
      exact h.has this.1 this.2
def mach (p : ByteArray) : Nat → Rd × St
  | 0 => (rd0, atS 0)
  | i + 1 => (takesR p (mach p i).1 (mach p i).2 (stepS (mach p i).2 (byteAt p (i : Int))) i, stepS (mach p i).2 (byteAt p (i : Int)))
theorem mach_inv (p : ByteArray) : ∀ i, i ≤ p.size → Inv p i (mach p i).1 (mach p i).2
  | 0, _ => inv_start p
  | i + 1, h => by
    have hi := mach_inv p i (by omega)
    exact inv_step hi (by omega) (step_tab _ _ hi.rng.1 hi.rng.2)
def tokensF (page : ByteArray) : List S41 × Int :=
  if 65536 < page.size then ([], 500) else ((restR (Ln.linesB page) (mach (Ln.linesB page) (Ln.linesB page).size).1 (mach (Ln.linesB page) (Ln.linesB page).size).2).out, 0)
end Go.Proofs.YtfmcdlbbbmeolaaGreatDoor.Tk
end
