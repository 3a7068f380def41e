/- UtfNorms: what is normed may be, and is its own norm; parts that may be are normed by themselves: the plain law. -/
import Derived.Test.YtnhhbfanpnpgdaaDoorPureUtfs
import Derived.Test.YtnhhbfanpnpgdaaDoorUtfMore2
namespace Go.Proofs.YtnhhbfanpnpgdaaDoor.Pure
open Go.RowKit Go.Proofs.YtnhhbfanpnpgdaaDoor.XU Go.Proofs.YtnhhbfanpnpgdaaDoorW.PrintWords Go.Proofs.YtnhhbfanpnpgdaaDoorW.PrintLast Go.Proofs.YtnhhbfanpnpgdaaDoor.Base Go.Proofs.YtnhhbfanpnpgdaaDoor.Ext Go.Proofs.YtnhhbfanpnpgdaaDoor.Utf

theorem normS_data (s : ByteArray) : (normS s).data.toList = normL s.data.toList := rfl
theorem normS_size (s : ByteArray) : (normS s).size = (normL s.data.toList).length := by rw [← data_length, normS_data]
theorem bool_both {a b : Bool} (h : a = true ↔ b = true) : (a == b) = true := by rw [beq_iff_eq, Bool.eq_iff_iff]; exact h

theorem UtfNorms (s t : ByteArray) (_ : s.size ≤ 140737488351232) (_ : t.size ≤ 140737488351232) (hb : s.size + t.size ≤ 1048576) : stolelaw1_UtfNorms.f s t = some true := by
  have h3 := norm_len s.data.toList
  have h1 := norm_len_ge s.data.toList
  have h4 := norm_len t.data.toList
  rw [data_length] at h1 h3 h4
  have hx : (normS s).size ≤ 3 * s.size := by rw [normS_size]; exact h3
  have hxt : (normS s ++ t).size = (normS s).size + t.size := size_append _ _
  have hnx : normL (normS s).data.toList = (normS s).data.toList := by rw [normS_data, norm_norm]
  have hmx : utf_May.f (normS s) = some true := by rw [may_ok _ (by omega), hnx, beq_self_eq_true]
  have hnn : utf_Norm.f (normS s) = some (normS s) := by rw [norm_ok _ (by omega)]; congr 1; exact ext_list hnx
  unfold stolelaw1_UtfNorms.f
  rw [awake1, Option.bind_some, if_pos rfl, norm_ok s (by omega), Option.bind_some, hmx, Option.bind_some, if_pos rfl, hnn, Option.bind_some, if_pos rfl, may_ok s (by omega), Option.bind_some]
  rw [if_pos (show (((normS s).toList == s.toList) == (normL s.data.toList == s.data.toList)) = true from by rw [list_eq, list_eq]; exact beq_self_eq_true _)]
  rw [if_pos (by omega), norm_ok (normS s ++ t) (by omega), Option.bind_some, norm_ok t (by omega), Option.bind_some]
  have hts : (normS t).size ≤ 3 * t.size := by rw [normS_size]; exact h4
  rw [if_pos (by omega), if_pos, decide_eq_true (show ((normS s).size : Int) ≥ (s.size : Int) by rw [normS_size]; omega)]
  rw [list_eq, list_eq, normS_data, data_append, data_append, normS_data, normS_data, norm_append]
end Go.Proofs.YtnhhbfanpnpgdaaDoor.Pure
