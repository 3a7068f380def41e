/- utf.Norm, utf.Lower in the print's form. -/
import Derived.Test.YtnhhbfanpnpgdaaDoorLower
namespace Go.Proofs.YtnhhbfanpnpgdaaDoor.Ext
open Go.RowKit Go.Lib Go.Proofs.YtnhhbfanpnpgdaaDoorW.PrintWords Go.Proofs.YtnhhbfanpnpgdaaDoorW.PrintLast Go.Proofs.YtnhhbfanpnpgdaaDoorW.PrintMore Go.Proofs.YtnhhbfanpnpgdaaDoor.Utf

def normS (s : ByteArray) : ByteArray := ⟨(normL s.data.toList).toArray⟩
def lowS (s : ByteArray) : ByteArray := ⟨(s.data.toList.map lowB).toArray⟩
def utf_Norm.f (a0 : ByteArray) : Option ByteArray := if 3 * a0.size ≤ 140737488355328 then some (normS a0) else none
theorem utf_Norm.calls (a0 : ByteArray) (r : ByteArray) (w : World) (hT : Tabs w) (h : utf_Norm.f a0 = some r) :
    Calls Tryd.prog 10 #[.string a0] w fun e w' => e = .returned (.string r) ∧ Below w.heap.size w w' := by
  unfold utf_Norm.f at h
  by_cases hs : 3 * a0.size ≤ 140737488355328
  · rw [if_pos hs] at h
    obtain rfl := Option.some.inj h
    exact norm_calls a0 w hT hs
  · rw [if_neg hs] at h; cases h
def utf_Lower.f (a0 : ByteArray) : Option ByteArray := if a0.size ≤ 4611686018427387904 then some (lowS a0) else none
theorem utf_Lower.calls (a0 : ByteArray) (r : ByteArray) (w : World) (h : utf_Lower.f a0 = some r) :
    Calls Tryd.prog 12 #[.string a0] w fun e w' => e = .returned (.string r) ∧ Below w.heap.size w w' := by
  unfold utf_Lower.f at h
  by_cases hs : a0.size ≤ 4611686018427387904
  · rw [if_pos hs] at h
    obtain rfl := Option.some.inj h
    exact lower_calls a0 w hs
  · rw [if_neg hs] at h; cases h
end Go.Proofs.YtnhhbfanpnpgdaaDoor.Ext
