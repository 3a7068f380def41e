/- url.Scheme, Start, Part in the print's form. -/
import Derived.Test.YtfncppekjgbedaaGreatDoorStartPart
namespace Go.Proofs.YtfncppekjgbedaaGreatDoor.Ext
open Go.RowKit Go.Lib Go.Proofs.YtfncppekjgbedaaGreatDoorW.PrintWords Go.Proofs.YtfncppekjgbedaaGreatDoorW.PrintLast Go.Proofs.YtfncppekjgbedaaGreatDoorW.PrintMore Go.Proofs.YtfncppekjgbedaaGreatDoor.Utf Go.Proofs.YtfncppekjgbedaaGreatDoor.Sync

def url_Scheme.f (a0 : ByteArray) : Option (ByteArray × Bool) := if a0.size ≤ 140737488355328 then some (⟨(schS a0).1.toArray⟩, (schS a0).2) else none
theorem url_Scheme.calls (a0 : ByteArray) (r1 : ByteArray) (r2 : Bool) (w : World) (h : url_Scheme.f a0 = some (r1, r2)) :
    Calls Tryz.prog 4 #[.string a0] w fun e w' => e = .returned (.tuple #[.string r1, .bool r2]) ∧ Below w.heap.size w w' := by
  unfold url_Scheme.f at h
  by_cases hs : a0.size ≤ 140737488355328
  · rw [if_pos hs] at h
    obtain ⟨h1, h2⟩ := Prod.mk.inj (Option.some.inj h)
    subst h1; subst h2
    exact scheme_calls a0 w hs
  · rw [if_neg hs] at h; cases h
def url_Start.f (a0 : ByteArray) : Option ByteArray := if a0.size ≤ 15000000000000 then some (startS a0) else none
theorem url_Start.calls (a0 : ByteArray) (r : ByteArray) (w : World) (hT : Tabs w) (h : url_Start.f a0 = some r) :
    Calls Tryz.prog 6 #[.string a0] w fun e w' => e = .returned (.string r) ∧ Below w.heap.size w w' := by
  unfold url_Start.f at h
  by_cases hs : a0.size ≤ 15000000000000
  · rw [if_pos hs] at h
    obtain rfl := Option.some.inj h
    exact start_calls a0 w hT hs
  · rw [if_neg hs] at h; cases h
def url_Part.f (a0 : ByteArray) : Option ByteArray := if a0.size ≤ 15000000000000 then some (partS a0) else none
theorem url_Part.calls (a0 : ByteArray) (r : ByteArray) (w : World) (hT : Tabs w) (h : url_Part.f a0 = some r) :
    Calls Tryz.prog 8 #[.string a0] w fun e w' => e = .returned (.string r) ∧ Below w.heap.size w w' := by
  unfold url_Part.f at h
  by_cases hs : a0.size ≤ 15000000000000
  · rw [if_pos hs] at h
    obtain rfl := Option.some.inj h
    exact part_calls a0 w hT hs
  · rw [if_neg hs] at h; cases h
end Go.Proofs.YtfncppekjgbedaaGreatDoor.Ext
