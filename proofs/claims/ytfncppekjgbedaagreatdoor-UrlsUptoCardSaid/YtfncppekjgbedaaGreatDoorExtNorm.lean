/- utf.Norm in the print's form. -/
import Derived.Test.YtfncppekjgbedaaGreatDoorUtf
namespace Go.Proofs.YtfncppekjgbedaaGreatDoor.Ext
open Go.RowKit Go.Lib Go.Proofs.YtfncppekjgbedaaGreatDoorW.PrintWords Go.Proofs.YtfncppekjgbedaaGreatDoorW.PrintLast Go.Proofs.YtfncppekjgbedaaGreatDoorW.PrintMore Go.Proofs.YtfncppekjgbedaaGreatDoor.Utf

def normS (s : ByteArray) : ByteArray := ⟨(normL s.data.toList).toArray⟩
def utf_Norm.f (a0 : ByteArray) : Option ByteArray := if 3 * a0.size ≤ 140737488355328 then some (normS a0) else none
theorem utf_Norm.calls (a0 : ByteArray) (r : ByteArray) (w : World) (hT : Tabs w) (h : utf_Norm.f a0 = some r) :
    Calls Tryz.prog 19 #[.string a0] w fun e w' => e = .returned (.string r) ∧ Below w.heap.size w w' := by
  unfold utf_Norm.f at h
  by_cases hs : 3 * a0.size ≤ 140737488355328
  · rw [if_pos hs] at h
    obtain rfl := Option.some.inj h
    exact norm_calls a0 w hT hs
  · rw [if_neg hs] at h; cases h
end Go.Proofs.YtfncppekjgbedaaGreatDoor.Ext
