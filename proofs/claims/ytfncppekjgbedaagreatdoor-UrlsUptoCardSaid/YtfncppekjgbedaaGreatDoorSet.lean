/- url's sets of bytes: has, of. -/
import Derived.Test.YtfncppekjgbedaaGreatDoorReplAll
import Derived.Test.YtfncppekjgbedaaGreatDoorLower
import Derived.Test.YtfncppekjgbedaaGreatDoorBase
namespace Go.Proofs.YtfncppekjgbedaaGreatDoor.Sync
open Go.RowKit Go.Lib Go.Proofs.YtfncppekjgbedaaGreatDoor.Base Go.Proofs.YtfncppekjgbedaaGreatDoorW.PrintWords Go.Proofs.YtfncppekjgbedaaGreatDoorW.PrintLast Go.Proofs.YtfncppekjgbedaaGreatDoorW.PrintMore
set_option linter.unusedVariables false
set_option linter.unusedSimpArgs false

open Go.Proofs.YtfncppekjgbedaaGreatDoor.Ext (lowN lowByte_calls low_lt)
def letN (c : Nat) : Bool := decide (97 ≤ lowN c) && decide (lowN c ≤ 122)
def digN (c : Nat) : Bool := decide (48 ≤ c) && decide (c ≤ 57)
set_option maxHeartbeats 1600000 in
theorem letter_calls (c : Nat) (w : World) : Calls Tryz.prog 12 #[.int .u8 c] w fun e w' => e = .returned (.bool (letN c)) ∧ w = w' := by
  have HL := Aside0.mk (fun w => lowByte_calls c w)
  obtain ⟨m, hm⟩ : ∃ m, lowN c = m := ⟨_, rfl⟩
  rw [hm] at HL
  unfold letN
  rw [hm]
  clear hm
  by_cases h1 : 97 ≤ m
  · have d1 : decide ((97 : Int) ≤ (m : Int)) = true := decide_eq_true (by omega)
    have e1 : decide (97 ≤ m) = true := decide_eq_true h1
    rw [e1, Bool.true_and]
    by_cases h2 : m ≤ 122
    · have d2 : decide ((m : Int) ≤ 122) = true := decide_eq_true (by omega)
      have e2 : decide (m ≤ 122) = true := decide_eq_true h2
      rw [e2]
      clear h1 h2 e1 e2
      go_enter Tryz.func12, Tryz.ntmps12
      go_wp2_with (go_at_call 28; refine (HL.out _).mono ?_; rintro e w2 ⟨rfl, rfl⟩)
      go_ret
      exact ⟨rfl, rfl⟩
    · have d2 : decide ((m : Int) ≤ 122) = false := decide_eq_false (by omega)
      have e2 : decide (m ≤ 122) = false := decide_eq_false h2
      rw [e2]
      clear h1 h2 e1 e2
      go_enter Tryz.func12, Tryz.ntmps12
      go_wp2_with (go_at_call 28; refine (HL.out _).mono ?_; rintro e w2 ⟨rfl, rfl⟩)
      go_ret
      exact ⟨rfl, rfl⟩
  · have d1 : decide ((97 : Int) ≤ (m : Int)) = false := decide_eq_false (by omega)
    have e1 : decide (97 ≤ m) = false := decide_eq_false h1
    rw [e1, Bool.false_and]
    clear h1 e1
    go_enter Tryz.func12, Tryz.ntmps12
    go_wp2_with (go_at_call 28; refine (HL.out _).mono ?_; rintro e w2 ⟨rfl, rfl⟩)
    go_ret
    exact ⟨rfl, rfl⟩
set_option maxHeartbeats 1600000 in
theorem digit_calls (c : Nat) (w : World) : Calls Tryz.prog 29 #[.int .u8 c] w fun e w' => e = .returned (.bool (digN c)) ∧ w = w' := by
  unfold digN
  by_cases h1 : 48 ≤ c
  · have d1 : decide ((48 : Int) ≤ (c : Int)) = true := decide_eq_true (by omega)
    have e1 : decide (48 ≤ c) = true := decide_eq_true h1
    rw [e1, Bool.true_and]
    by_cases h2 : c ≤ 57
    · have d2 : decide ((c : Int) ≤ 57) = true := decide_eq_true (by omega)
      have e2 : decide (c ≤ 57) = true := decide_eq_true h2
      rw [e2]
      clear h1 h2 e1 e2
      go_enter Tryz.func29, Tryz.ntmps29
      go_wp2
      go_ret
      exact ⟨rfl, rfl⟩
    · have d2 : decide ((c : Int) ≤ 57) = false := decide_eq_false (by omega)
      have e2 : decide (c ≤ 57) = false := decide_eq_false h2
      rw [e2]
      clear h1 h2 e1 e2
      go_enter Tryz.func29, Tryz.ntmps29
      go_wp2
      go_ret
      exact ⟨rfl, rfl⟩
  · have d1 : decide ((48 : Int) ≤ (c : Int)) = false := decide_eq_false (by omega)
    have e1 : decide (48 ≤ c) = false := decide_eq_false h1
    rw [e1, Bool.false_and]
    clear h1 e1
    go_enter Tryz.func29, Tryz.ntmps29
    go_wp2
    go_ret
    exact ⟨rfl, rfl⟩
def hasF (n0 n1 : Int) (c : Nat) : Bool := if c < 128 then Go.bits .and .u64 ((if c < 64 then n0 else n1) / 2 ^ (c % 64)) 1 == 1 else false
set_option maxRecDepth 100000 in
set_option maxHeartbeats 1600000 in
theorem has_calls (b : Nat) (n0 n1 : Int) (c : Nat) (w : World) (h0 : w.cell? ⟨b, 0, none⟩ = some (.int .u64 n0)) (h1 : w.cell? ⟨b, 1, none⟩ = some (.int .u64 n1)) (hc : c < 256) :
    Calls Tryz.prog 14 #[.pointer (some ⟨b, 0, none⟩), .int .u8 c] w fun e w' => e = .returned (.bool (hasF n0 n1 c)) ∧ w = w' := by
  unfold hasF
  by_cases h : c < 128
  · rw [if_pos h]
    have hd : decide ((c : Int) < 128) = true := decide_eq_true (by omega)
    have hcell : w.cell? ⟨b, c / 64, none⟩ = some (.int .u64 (if c < 64 then n0 else n1)) := by
      by_cases h6 : c < 64
      · rw [if_pos h6, show c / 64 = 0 by omega]; exact h0
      · rw [if_neg h6, show c / 64 = 1 by omega]; exact h1
    obtain ⟨nx, hnx⟩ : ∃ nx, (if c < 64 then n0 else n1) = nx := ⟨_, rfl⟩
    rw [hnx] at hcell ⊢
    clear h0 h1 hnx
    go_enter Tryz.func14, Tryz.ntmps14
    go_wp2
    go_ret
    exact ⟨rfl, rfl⟩
  · rw [if_neg h]
    have hd : decide ((c : Int) < 128) = false := decide_eq_false (by omega)
    go_enter Tryz.func14, Tryz.ntmps14
    go_wp2
    go_ret
    exact ⟨rfl, rfl⟩
end Go.Proofs.YtfncppekjgbedaaGreatDoor.Sync
