/- refs.Encode, refs.Decode in the print's form. -/
import Derived.Test.YtfabijpafbhdbaaDoorRefWalk4
namespace Go.Proofs.YtfabijpafbhdbaaDoor.Ext
open Go.RowKit Go.Lib Go.Proofs.YtfabijpafbhdbaaDoorW.PrintWords Go.Proofs.YtfabijpafbhdbaaDoorW.PrintLast Go.Proofs.YtfabijpafbhdbaaDoorW.PrintMore Go.Proofs.YtfabijpafbhdbaaDoor.Utf Go.Proofs.YtfabijpafbhdbaaDoor.Refs

theorem ne_nil_not (l : List UInt8) : (l != []) = !l.isEmpty := by cases l <;> rfl
def encS (s : ByteArray) : ByteArray := ⟨(encL (normL s.data.toList)).toArray⟩
def decS (s : ByteArray) : ByteArray := ⟨(decL s.data.toList).toArray⟩
def refs_Encode.f (a0 : ByteArray) : Option ByteArray := if 18 * a0.size ≤ 140737488355328 then some (encS a0) else none
theorem refs_Encode.calls (a0 : ByteArray) (r : ByteArray) (w : World) (hT : Tabs w) (h : refs_Encode.f a0 = some r) :
    Calls Tryd.prog 9 #[.string a0] w fun e w' => e = .returned (.string r) ∧ Below w.heap.size w w' := by
  unfold refs_Encode.f at h
  by_cases hs : 18 * a0.size ≤ 140737488355328
  · rw [if_pos hs] at h
    obtain rfl := Option.some.inj h
    exact encode_calls a0 w hT hs
  · rw [if_neg hs] at h; cases h
def refs_Decode.f (a0 : ByteArray) : Option ByteArray := if a0.size ≤ 140737488355328 then some (decS a0) else none
theorem refs_Decode.calls (a0 : ByteArray) (r : ByteArray) (w : World) (h : refs_Decode.f a0 = some r) :
    Calls Tryd.prog 11 #[.string a0] w fun e w' => e = .returned (.string r) ∧ Below w.heap.size w w' := by
  unfold refs_Decode.f at h
  by_cases hs : a0.size ≤ 140737488355328
  · rw [if_pos hs] at h
    obtain rfl := Option.some.inj h
    exact decode_calls a0 w hs
  · rw [if_neg hs] at h; cases h
end Go.Proofs.YtfabijpafbhdbaaDoor.Ext
