/- refs: the small functions: what they answer. -/
import Derived.Test.YtfabijpafbhdbaaDoorShelf
import Derived.Test.YtfabijpafbhdbaaDoorRefPlain
import Derived.Test.YtfabijpafbhdbaaDoorWMore
import Derived.BigCall
import Derived.Laws.Runes
namespace Go.Proofs.YtfabijpafbhdbaaDoor.Refs
open Go.RowKit Go.Lib Go.Proofs.YtfabijpafbhdbaaDoorW.PrintWords Go.Proofs.YtfabijpafbhdbaaDoorW.PrintLast Go.Proofs.YtfabijpafbhdbaaDoorW.PrintMore

theorem lowByte_calls (c : Nat) (w : World) :
    Calls Tryd.prog 46 #[.int .u8 (c : Int)] w fun e w' => e = .returned (.int .u8 (lowN c : Nat)) ∧ w = w' := by
  by_cases h1 : 65 ≤ c
  · have d1 : decide ((65 : Int) ≤ (c : Int)) = true := decide_eq_true (by omega)
    by_cases h2 : c ≤ 90
    · have d2 : decide ((c : Int) ≤ 90) = true := decide_eq_true (by omega)
      have hf : ((lowN c : Nat) : Int) = (c : Int) + 32 := by unfold lowN; rw [if_pos ⟨h1, h2⟩]; omega
      have HF := Aside0.mk hf
      clear hf
      have g1 : (65 : Int) ≤ c := by omega
      have g2 : (c : Int) ≤ 90 := by omega
      go_enter Tryd.func46, Tryd.ntmps46
      go_wp2
      go_ret
      refine ⟨?_, rfl⟩
      rw [HF.out]
      show Ending.returned (Value.int .u8 _) = _
      congr 2
      omega
    · have d2 : decide ((c : Int) ≤ 90) = false := decide_eq_false (by omega)
      have hf : lowN c = c := by unfold lowN; rw [if_neg (fun h => h2 h.2)]
      have HF := Aside0.mk hf
      clear hf
      go_enter Tryd.func46, Tryd.ntmps46
      go_wp2
      go_ret
      exact ⟨by rw [HF.out]; rfl, rfl⟩
  · have d1 : decide ((65 : Int) ≤ (c : Int)) = false := decide_eq_false (by omega)
    have hf : lowN c = c := by unfold lowN; rw [if_neg (fun h => h1 h.1)]
    have HF := Aside0.mk hf
    clear hf
    go_enter Tryd.func46, Tryd.ntmps46
    go_wp2
    go_ret
    exact ⟨by rw [HF.out]; rfl, rfl⟩

theorem digit_calls0 (c : Nat) (w : World) :
    Calls Tryd.prog 47 #[.int .u8 (c : Int)] w fun e w' => e = .returned (.bool (decide (48 ≤ c ∧ c ≤ 57))) ∧ w = w' := by
  by_cases h1 : 48 ≤ c
  · have d1 : decide ((48 : Int) ≤ (c : Int)) = true := decide_eq_true (by omega)
    by_cases h2 : c ≤ 57
    · have d2 : decide ((c : Int) ≤ 57) = true := decide_eq_true (by omega)
      have hf : decide (48 ≤ c ∧ c ≤ 57) = true := decide_eq_true ⟨h1, h2⟩
      have HF := Aside0.mk hf
      clear hf h1 h2
      go_enter Tryd.func47, Tryd.ntmps47
      go_wp2
      go_ret
      exact ⟨by rw [HF.out]; rfl, rfl⟩
    · have d2 : decide ((c : Int) ≤ 57) = false := decide_eq_false (by omega)
      have hf : decide (48 ≤ c ∧ c ≤ 57) = false := decide_eq_false (fun h => h2 h.2)
      have HF := Aside0.mk hf
      clear hf h1 h2
      go_enter Tryd.func47, Tryd.ntmps47
      go_wp2
      go_ret
      exact ⟨by rw [HF.out]; rfl, rfl⟩
  · have d1 : decide ((48 : Int) ≤ (c : Int)) = false := decide_eq_false (by omega)
    have hf : decide (48 ≤ c ∧ c ≤ 57) = false := decide_eq_false (fun h => h1 h.1)
    have HF := Aside0.mk hf
    clear hf h1
    go_enter Tryd.func47, Tryd.ntmps47
    go_wp2
    go_ret
    exact ⟨by rw [HF.out]; rfl, rfl⟩

theorem written_calls (c : Nat) (w : World) :
    Calls Tryd.prog 19 #[.int .u8 (c : Int)] w fun e w' => e = .returned (.string ⟨(wrL c).toArray⟩) ∧ w = w' := by
  by_cases h : c = 38 ∨ c = 60 ∨ c = 62 ∨ c = 34 ∨ c = 39 ∨ c = 13
  · rcases h with rfl | rfl | rfl | rfl | rfl | rfl <;>
    · go_enter Tryd.func19, Tryd.ntmps19
      go_wp2
      go_ret
      exact ⟨rfl, rfl⟩
  · have hf : wrL c = [] := by unfold wrL; repeat' (split; · omega)
                               rfl
    have HF := Aside0.mk hf
    have c1 : ((c : Int) == 38) = false := by rw [beq_eq_false_iff_ne]; omega
    have c2 : ((c : Int) == 60) = false := by rw [beq_eq_false_iff_ne]; omega
    have c3 : ((c : Int) == 62) = false := by rw [beq_eq_false_iff_ne]; omega
    have c4 : ((c : Int) == 34) = false := by rw [beq_eq_false_iff_ne]; omega
    have c5 : ((c : Int) == 39) = false := by rw [beq_eq_false_iff_ne]; omega
    have c6 : ((c : Int) == 13) = false := by rw [beq_eq_false_iff_ne]; omega
    clear hf h
    go_enter Tryd.func19, Tryd.ntmps19
    go_wp2
    go_ret
    exact ⟨by rw [HF.out]; rfl, rfl⟩

theorem digit_calls (c base : Nat) (w : World) :
    Calls Tryd.prog 42 #[.int .u8 (c : Int), .int .i64 (base : Int)] w fun e w' => e = .returned (.int .i64 (digN c base : Nat)) ∧ w = w' := by
  obtain ⟨d, hd⟩ : ∃ d, lowN c = d := ⟨_, rfl⟩
  have hl := lowByte_calls c w
  rw [hd] at hl
  have hf : digN c base = if 48 ≤ d ∧ d ≤ 57 then d - 48 else if 97 ≤ d ∧ d ≤ 102 then d - 97 + 10 else base := by unfold digN; rw [hd]
  have hg := digit_calls0 d w
  have HL := Aside0.mk hl
  clear hl hd
  by_cases h1 : 48 ≤ d ∧ d ≤ 57
  · rw [if_pos h1] at hf
    rw [decide_eq_true h1] at hg
    have HG := Aside0.mk hg
    have hf' : ((digN c base : Nat) : Int) = (d : Int) - 48 := by omega
    have HF := Aside0.mk hf'
    have g1 : (48 : Int) ≤ d := by omega
    have g2 : (d : Int) ≤ 57 := by omega
    clear hf hg hf'
    go_enter Tryd.func42, Tryd.ntmps42
    go_wp2_with (first | (go_at_call 46; refine HL.out.mono ?_; rintro e w1 ⟨rfl, rfl⟩) | (go_at_call 47; refine HG.out.mono ?_; rintro e w1 ⟨rfl, rfl⟩))
    go_ret
    exact ⟨by rw [HF.out]; rfl, rfl⟩
  · rw [if_neg h1] at hf
    rw [decide_eq_false h1] at hg
    have HG := Aside0.mk hg
    by_cases h2 : 97 ≤ d
    · have d1 : decide ((97 : Int) ≤ (d : Int)) = true := decide_eq_true (by omega)
      by_cases h3 : d ≤ 102
      · have d2 : decide ((d : Int) ≤ 102) = true := decide_eq_true (by omega)
        rw [if_pos ⟨h2, h3⟩] at hf
        have hf' : ((digN c base : Nat) : Int) = (d : Int) - 97 + 10 := by omega
        have HF := Aside0.mk hf'
        have g1 : (97 : Int) ≤ d := by omega
        have g2 : (d : Int) ≤ 102 := by omega
        clear hf hg hf' h1
        go_enter Tryd.func42, Tryd.ntmps42
        go_wp2_with (first | (go_at_call 46; refine HL.out.mono ?_; rintro e w1 ⟨rfl, rfl⟩) | (go_at_call 47; refine HG.out.mono ?_; rintro e w1 ⟨rfl, rfl⟩))
        go_ret
        exact ⟨by rw [HF.out]; rfl, rfl⟩
      · have d2 : decide ((d : Int) ≤ 102) = false := decide_eq_false (by omega)
        rw [if_neg (fun h => h3 h.2)] at hf
        have HF := Aside0.mk hf
        clear hf hg h1
        go_enter Tryd.func42, Tryd.ntmps42
        go_wp2_with (first | (go_at_call 46; refine HL.out.mono ?_; rintro e w1 ⟨rfl, rfl⟩) | (go_at_call 47; refine HG.out.mono ?_; rintro e w1 ⟨rfl, rfl⟩))
        go_ret
        exact ⟨by rw [HF.out]; rfl, rfl⟩
    · have d1 : decide ((97 : Int) ≤ (d : Int)) = false := decide_eq_false (by omega)
      rw [if_neg (fun h => h2 h.1)] at hf
      have HF := Aside0.mk hf
      clear hf hg h1
      go_enter Tryd.func42, Tryd.ntmps42
      go_wp2_with (first | (go_at_call 46; refine HL.out.mono ?_; rintro e w1 ⟨rfl, rfl⟩) | (go_at_call 47; refine HG.out.mono ?_; rintro e w1 ⟨rfl, rfl⟩))
      go_ret
      exact ⟨by rw [HF.out]; rfl, rfl⟩
end Go.Proofs.YtfabijpafbhdbaaDoor.Refs
