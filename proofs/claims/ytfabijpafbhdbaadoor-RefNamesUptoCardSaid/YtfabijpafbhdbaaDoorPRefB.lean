/- What the law RefNames needs of the plain functions. -/
import Derived.Test.YtfabijpafbhdbaaDoorXR5
import Derived.Test.YtfabijpafbhdbaaDoorPNorm
import Derived.Test.YtfabijpafbhdbaaDoorPRefMore
namespace Go.Proofs.YtfabijpafbhdbaaDoor.PureB
open Go.RowKit Go.Proofs.YtfabijpafbhdbaaDoor.XR Go.Proofs.YtfabijpafbhdbaaDoorW.PrintWords Go.Proofs.YtfabijpafbhdbaaDoorW.PrintLast Go.Proofs.YtfabijpafbhdbaaDoor.Base Go.Proofs.YtfabijpafbhdbaaDoor.Ext Go.Proofs.YtfabijpafbhdbaaDoor.Pure Go.Proofs.YtfabijpafbhdbaaDoor.Utf Go.Proofs.YtfabijpafbhdbaaDoor.Refs

theorem awake2 : stolelaw2_awake.f = some true := by decide +kernel
theorem enc_ok (s : ByteArray) (h : 18 * s.size ≤ 140737488355328) : refs_Encode.f s = some (encS s) := by unfold refs_Encode.f; rw [if_pos h]
theorem dec_ok (s : ByteArray) (h : s.size ≤ 140737488355328) : refs_Decode.f s = some (decS s) := by unfold refs_Decode.f; rw [if_pos h]
theorem encS_data (s : ByteArray) : (encS s).data.toList = encL (normL s.data.toList) := rfl
theorem decS_data (s : ByteArray) : (decS s).data.toList = decL s.data.toList := rfl
theorem encL_len (l : List UInt8) : (encL l).length ≤ 6 * l.length := by
  induction l with
  | nil => exact Nat.le_refl _
  | cons b l ih =>
    rw [encL_cons, List.length_append, List.length_cons]
    have : (encB b).length ≤ 6 := all_bytes (fun b => (encB b).length ≤ 6) (by decide +kernel) b
    omega
theorem normS_size (s : ByteArray) : (normS s).size = (normL s.data.toList).length := by rw [← data_length]; rfl
theorem normS_le (s : ByteArray) : (normS s).size ≤ 3 * s.size := by
  rw [normS_size]
  have := norm_len s.data.toList
  rwa [data_length] at this
theorem encS_size (s : ByteArray) : (encS s).size ≤ 18 * s.size := by
  rw [← data_length, encS_data]
  have h1 := encL_len (normL s.data.toList)
  have h2 := norm_len s.data.toList
  rw [data_length] at h2
  omega

theorem ref_dec (w x t : List UInt8) (hm : meantL w = some x) : decL (38 :: (w ++ 59 :: t)) = x ++ decL t := by
  obtain ⟨hok, hw⟩ := meantL_ok hm
  have h59 : (59 : UInt8) ∉ w := fun h => absurd (hok 59 h) (by decide)
  have hib : Lib.indexByte ((38 :: (w ++ 59 :: t)).take 11) 59 = ((w.length + 1 : Nat) : Int) := by
    have h1 : (38 :: (w ++ 59 :: t)).take 11 = (38 :: w) ++ 59 :: t.take (9 - w.length) := by
      have : ((38 : UInt8) :: (w ++ 59 :: t)) = (38 :: w) ++ 59 :: t := rfl
      rw [this, List.take_append, List.take_of_length_le (by simp only [List.length_cons]; omega)]
      have : 11 - (38 :: w).length = (9 - w.length) + 1 := by simp only [List.length_cons]; omega
      rw [this, List.take_succ_cons]
    rw [h1, indexByte_at _ _ _ (by
      intro h
      rcases List.mem_cons.1 h with h | h
      · cases h
      · exact h59 h)]
    rfl
  have hr : refAt (38 :: (w ++ 59 :: t)) = some (x, (w.length + 1) + 1) := by
    unfold refAt
    rw [hib, if_pos (by omega)]
    have : ((38 :: (w ++ 59 :: t)).take ((w.length + 1 : Nat) : Int).toNat).drop 1 = w := by
      rw [Int.toNat_natCast, List.take_succ_cons]
      show (w ++ 59 :: t).take w.length = w
      rw [List.take_left]
    rw [this, hm]; rfl
  rw [decL_some _ _ _ hr]
  have : (w ++ 59 :: t).drop (w.length + 1) = t := by
    rw [List.drop_append, List.drop_eq_nil_of_le (by omega)]
    simp
  rw [this]

end Go.Proofs.YtfabijpafbhdbaaDoor.PureB
