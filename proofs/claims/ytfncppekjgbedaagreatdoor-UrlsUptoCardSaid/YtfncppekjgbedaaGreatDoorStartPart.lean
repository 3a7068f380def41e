/- url.allowed, Start, Part: walked. -/
import Derived.Test.YtfncppekjgbedaaGreatDoorScheme
import Derived.Test.YtfncppekjgbedaaGreatDoorExtNorm
namespace Go.Proofs.YtfncppekjgbedaaGreatDoor.Sync
open Go.RowKit Go.Lib Go.Proofs.YtfncppekjgbedaaGreatDoor.Base Go.Proofs.YtfncppekjgbedaaGreatDoorW.PrintWords Go.Proofs.YtfncppekjgbedaaGreatDoorW.PrintLast Go.Proofs.YtfncppekjgbedaaGreatDoorW.PrintMore
open Go.Proofs.YtfncppekjgbedaaGreatDoor.Ext
open Go.Proofs.YtfncppekjgbedaaGreatDoor.Utf
set_option linter.unusedVariables false
set_option linter.unusedSimpArgs false

def alw (l : List UInt8) : Bool := l == [104, 116, 116, 112] || l == [104, 116, 116, 112, 115] || l == [109, 97, 105, 108, 116, 111] || l == [116, 101, 108]
set_option maxHeartbeats 1600000 in
theorem allowed_calls (s : ByteArray) (w : World) : Calls Tryz.prog 20 #[.string s] w fun e w' => e = .returned (.bool (alw s.data.toList)) ∧ w = w' := by
  obtain ⟨v, hv⟩ : ∃ v, alw s.data.toList = v := ⟨_, rfl⟩
  rw [hv]
  unfold alw at hv
  rw [← ByteArray.toList_eq] at hv
  have HV := Aside0.mk hv
  clear hv
  obtain ⟨a1, h1⟩ : ∃ a, (s.toList == [104, 116, 116, 112]) = a := ⟨_, rfl⟩
  obtain ⟨a2, h2⟩ : ∃ a, (s.toList == [104, 116, 116, 112, 115]) = a := ⟨_, rfl⟩
  obtain ⟨a3, h3⟩ : ∃ a, (s.toList == [109, 97, 105, 108, 116, 111]) = a := ⟨_, rfl⟩
  obtain ⟨a4, h4⟩ : ∃ a, (s.toList == [116, 101, 108]) = a := ⟨_, rfl⟩
  rw [h1, h2, h3, h4] at HV
  cases a1 <;> cases a2 <;> cases a3 <;> cases a4 <;>
  · go_enter Tryz.func20, Tryz.ntmps20
    go_wp2
    go_ret
    exact ⟨by rw [← HV.out]; rfl, rfl⟩
def moreSet : List UInt8 := [45, 46, 95, 126, 58, 47, 63, 35, 91, 93, 64, 33, 36, 38, 42, 43, 44, 59, 61, 37]
def keepSet : List UInt8 := [45, 46, 95, 126]
def refused : List UInt8 := [35, 90, 103, 111, 116, 109, 112, 108, 90]
def schS (s : ByteArray) : List UInt8 × Bool := schL (cutS s).data.toList
def startS (s : ByteArray) : ByteArray := ⟨(if (schS (normS s)).2 = true ∧ alw (schS (normS s)).1 = false then refused else wrL moreSet (normS s).data.toList).toArray⟩
def partS (s : ByteArray) : ByteArray := ⟨(wrL keepSet (normS s).data.toList).toArray⟩
theorem normS_size (s : ByteArray) : (normS s).size ≤ 3 * s.size := norm_len s.data.toList
set_option maxHeartbeats 1600000 in
theorem part_calls (s : ByteArray) (w : World) (hT : Tabs w) (hs : s.size ≤ 15000000000000) : Calls Tryz.prog 8 #[.string s] w fun e w' => e = .returned (.string (partS s)) ∧ Below w.heap.size w w' := by
  have HN := Aside0.mk (norm_calls s w hT (by omega))
  have HZ := Aside0.mk (show 3 * (normS s).size ≤ 140737488355328 by have := normS_size s; omega)
  have HO := Aside0.mk (fun w => of_calls ⟨#[45, 46, 95, 126]⟩ w)
  clear hT
  go_enter Tryz.func8, Tryz.ntmps8
  go_wp2_with (first
    | (go_at_call 19; refine HN.out.mono ?_; rintro e w1 ⟨rfl, hb1⟩; have HB1 := Aside0.mk hb1; clear hb1)
    | (go_at_call 13; refine (HO.out _).mono ?_; rintro e w2 ⟨b, rfl, hS2, hb2⟩; have HB2 := Aside0.mk (HB1.out.trans (hb2.mono HB1.out.size)); have HW := Aside0.mk (written_calls (normS s) keepSet b w2 hS2 HZ.out); clear hS2 hb2)
    | (go_at_call 21; refine HW.out.mono ?_; rintro e w3 ⟨rfl, hb3⟩))
  go_ret
  exact ⟨rfl, HB2.out.trans (hb3.mono HB2.out.size)⟩
set_option maxHeartbeats 1600000 in
theorem start_calls (s : ByteArray) (w : World) (hT : Tabs w) (hs : s.size ≤ 15000000000000) : Calls Tryz.prog 6 #[.string s] w fun e w' => e = .returned (.string (startS s)) ∧ Below w.heap.size w w' := by
  have HN := Aside0.mk (norm_calls s w hT (by omega))
  have HZ := Aside0.mk (show 3 * (normS s).size ≤ 140737488355328 by have := normS_size s; omega)
  have HO := Aside0.mk (fun w => of_calls ⟨#[45, 46, 95, 126, 58, 47, 63, 35, 91, 93, 64, 33, 36, 38, 42, 43, 44, 59, 61, 37]⟩ w)
  have HSc := Aside0.mk (fun w => scheme_calls (normS s) w (by have := HZ.out; omega))
  have HAl := Aside0.mk (fun w => allowed_calls ⟨(schS (normS s)).1.toArray⟩ w)
  obtain ⟨a, ha⟩ : ∃ a, (schS (normS s)).2 = a := ⟨_, rfl⟩
  obtain ⟨c, hc⟩ : ∃ c, alw (schS (normS s)).1 = c := ⟨_, rfl⟩
  have hc2 : alw (⟨(schS (normS s)).1.toArray⟩ : ByteArray).data.toList = c := hc
  have ha2 : (schL (cutS (normS s)).data.toList).2 = a := ha
  rw [hc2] at HAl
  rw [ha2] at HSc
  have hst : startS s = ⟨(if a = true ∧ c = false then refused else wrL moreSet (normS s).data.toList).toArray⟩ := by unfold startS; rw [ha, hc]
  rw [hst]
  clear hT ha hc hc2 ha2 hst
  cases a <;> cases c <;>
  · go_enter Tryz.func6, Tryz.ntmps6
    go_wp2_with (first
      | (go_at_call 19; refine HN.out.mono ?_; rintro e w1 ⟨rfl, hb1⟩; have HB1 := Aside0.mk hb1; clear hb1)
      | (go_at_call 4; refine (HSc.out _).mono ?_; rintro e w2 ⟨rfl, hb2⟩; have HB := Aside0.mk (HB1.out.trans (hb2.mono HB1.out.size)); clear hb2)
      | (go_at_call 20; refine (HAl.out _).mono ?_; rintro e w2 ⟨rfl, rfl⟩)
      | (go_at_call 13; refine (HO.out _).mono ?_; rintro e w4 ⟨b, rfl, hS2, hb4⟩; have HB2 := Aside0.mk (HB.out.trans (hb4.mono HB.out.size)); have HW := Aside0.mk (written_calls (normS s) moreSet b w4 hS2 HZ.out); clear hS2 hb4)
      | (go_at_call 21; refine HW.out.mono ?_; rintro e w5 ⟨rfl, hb5⟩))
    go_ret
    first
      | exact ⟨rfl, HB.out⟩
      | exact ⟨rfl, HB2.out.trans (hb5.mono HB2.out.size)⟩
end Go.Proofs.YtfncppekjgbedaaGreatDoor.Sync
