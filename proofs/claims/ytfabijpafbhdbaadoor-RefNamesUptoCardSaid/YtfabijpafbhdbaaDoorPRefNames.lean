/- RefNames: the plain law. -/
import Derived.Test.YtfabijpafbhdbaaDoorXRN2
import Derived.Test.YtfabijpafbhdbaaDoorPRefB
namespace Go.Proofs.YtfabijpafbhdbaaDoor.PureN
open Go.RowKit Go.Proofs.YtfabijpafbhdbaaDoor.XR Go.Proofs.YtfabijpafbhdbaaDoor.XRN Go.Proofs.YtfabijpafbhdbaaDoorW.PrintWords Go.Proofs.YtfabijpafbhdbaaDoorW.PrintLast Go.Proofs.YtfabijpafbhdbaaDoor.Base Go.Proofs.YtfabijpafbhdbaaDoor.Ext Go.Proofs.YtfabijpafbhdbaaDoor.Pure Go.Proofs.YtfabijpafbhdbaaDoor.PureB Go.Proofs.YtfabijpafbhdbaaDoor.Utf Go.Proofs.YtfabijpafbhdbaaDoor.Refs

def Named (N S : ByteArray) : Prop :=
  refs_Decode.f (((⟨#[38]⟩ : ByteArray) ++ N) ++ (⟨#[59]⟩ : ByteArray)) = some S ∧ refs_Decode.f ((⟨#[38]⟩ : ByteArray) ++ N) = some ((⟨#[38]⟩ : ByteArray) ++ N) ∧
  refs_Decode.f (((⟨#[38]⟩ : ByteArray) ++ N) ++ (⟨#[32, 59]⟩ : ByteArray)) = some (((⟨#[38]⟩ : ByteArray) ++ N) ++ (⟨#[32, 59]⟩ : ByteArray)) ∧
  refs_Decode.f (((⟨#[38, 65]⟩ : ByteArray) ++ N) ++ (⟨#[59]⟩ : ByteArray)) = some (((⟨#[38, 65]⟩ : ByteArray) ++ N) ++ (⟨#[59]⟩ : ByteArray)) ∧
  refs_Decode.f (((((⟨#[38]⟩ : ByteArray) ++ N) ++ (⟨#[59]⟩ : ByteArray)) ++ ((⟨#[38]⟩ : ByteArray) ++ N)) ++ (⟨#[59]⟩ : ByteArray)) = some (S ++ S) ∧
  meantL N.data.toList = some S.data.toList ∧ N.size ≤ 4 ∧ S.size ≤ 2
theorem named0 : Named ⟨#[97, 109, 112]⟩ ⟨#[38]⟩ := ⟨by decide +kernel, by decide +kernel, by decide +kernel, by decide +kernel, by decide +kernel, by decide +kernel, by decide, by decide⟩
theorem named1 : Named ⟨#[108, 116]⟩ ⟨#[60]⟩ := ⟨by decide +kernel, by decide +kernel, by decide +kernel, by decide +kernel, by decide +kernel, by decide +kernel, by decide, by decide⟩
theorem named2 : Named ⟨#[103, 116]⟩ ⟨#[62]⟩ := ⟨by decide +kernel, by decide +kernel, by decide +kernel, by decide +kernel, by decide +kernel, by decide +kernel, by decide, by decide⟩
theorem named3 : Named ⟨#[113, 117, 111, 116]⟩ ⟨#[34]⟩ := ⟨by decide +kernel, by decide +kernel, by decide +kernel, by decide +kernel, by decide +kernel, by decide +kernel, by decide, by decide⟩
theorem named4 : Named ⟨#[97, 112, 111, 115]⟩ ⟨#[39]⟩ := ⟨by decide +kernel, by decide +kernel, by decide +kernel, by decide +kernel, by decide +kernel, by decide +kernel, by decide, by decide⟩
theorem named5 : Named ⟨#[110, 98, 115, 112]⟩ ⟨#[194, 160]⟩ := ⟨by decide +kernel, by decide +kernel, by decide +kernel, by decide +kernel, by decide +kernel, by decide +kernel, by decide, by decide⟩
theorem named6 : Named ⟨#[99, 111, 112, 121]⟩ ⟨#[194, 169]⟩ := ⟨by decide +kernel, by decide +kernel, by decide +kernel, by decide +kernel, by decide +kernel, by decide +kernel, by decide, by decide⟩

def namesL : List ByteArray := [(⟨#[97, 109, 112]⟩ : ByteArray), (⟨#[108, 116]⟩ : ByteArray), (⟨#[103, 116]⟩ : ByteArray), (⟨#[113, 117, 111, 116]⟩ : ByteArray), (⟨#[97, 112, 111, 115]⟩ : ByteArray), (⟨#[110, 98, 115, 112]⟩ : ByteArray), (⟨#[99, 111, 112, 121]⟩ : ByteArray)]
def signsL : List ByteArray := [(⟨#[38]⟩ : ByteArray), (⟨#[60]⟩ : ByteArray), (⟨#[62]⟩ : ByteArray), (⟨#[34]⟩ : ByteArray), (⟨#[39]⟩ : ByteArray), (⟨#[194, 160]⟩ : ByteArray), (⟨#[194, 169]⟩ : ByteArray)]
theorem named_at (j : Nat) (h : j < 7) : Named (rdOf ByteArray.empty namesL (j : Int)) (rdOf ByteArray.empty signsL (j : Int)) := by
  match j, h with
  | 0, _ => exact named0
  | 1, _ => exact named1
  | 2, _ => exact named2
  | 3, _ => exact named3
  | 4, _ => exact named4
  | 5, _ => exact named5
  | 6, _ => exact named6

theorem RefNames (x : Int) (t : ByteArray) (_ : (Lit.int .i64 x).wf = true) (_ : t.size ≤ 140737488351232) (hb : t.size ≤ 1048576) : ∃ k, stolelaw2_RefNames.f k x t = some true := by
  refine Ev.rounds ?_
  unfold stolelaw2_RefNames.f
  obtain ⟨j, hj, hlt⟩ : ∃ j : Nat, wrap64 (Int.tmod (IntKind.u64.wrap x) 7) = (j : Int) ∧ j < 7 := by
    have h0 : 0 ≤ IntKind.u64.wrap x := by rw [IntKind.wrap_u64]; omega
    rw [Int.tmod_eq_emod_of_nonneg h0]
    refine ⟨(IntKind.u64.wrap x % 7).toNat, ?_, by omega⟩
    unfold wrap64; omega
  rw [hj]
  have hN := named_at j hlt
  refine Ev.bindC awake2 (Ev.pos rfl (Ev.bindC rfl (Ev.bindC rfl (Ev.pos (by omega) (Ev.pos (show (j : Int) < 7 by omega) ?_)))))
  change Named (rdOf ByteArray.empty [(⟨#[97, 109, 112]⟩ : ByteArray), (⟨#[108, 116]⟩ : ByteArray), (⟨#[103, 116]⟩ : ByteArray), (⟨#[113, 117, 111, 116]⟩ : ByteArray), (⟨#[97, 112, 111, 115]⟩ : ByteArray), (⟨#[110, 98, 115, 112]⟩ : ByteArray), (⟨#[99, 111, 112, 121]⟩ : ByteArray)] (j : Int))
    (rdOf ByteArray.empty [(⟨#[38]⟩ : ByteArray), (⟨#[60]⟩ : ByteArray), (⟨#[62]⟩ : ByteArray), (⟨#[34]⟩ : ByteArray), (⟨#[39]⟩ : ByteArray), (⟨#[194, 160]⟩ : ByteArray), (⟨#[194, 169]⟩ : ByteArray)] (j : Int)) at hN
  generalize rdOf ByteArray.empty [(⟨#[97, 109, 112]⟩ : ByteArray), (⟨#[108, 116]⟩ : ByteArray), (⟨#[103, 116]⟩ : ByteArray), (⟨#[113, 117, 111, 116]⟩ : ByteArray), (⟨#[97, 112, 111, 115]⟩ : ByteArray), (⟨#[110, 98, 115, 112]⟩ : ByteArray), (⟨#[99, 111, 112, 121]⟩ : ByteArray)] (j : Int) = N at hN ⊢
  generalize rdOf ByteArray.empty [(⟨#[38]⟩ : ByteArray), (⟨#[60]⟩ : ByteArray), (⟨#[62]⟩ : ByteArray), (⟨#[34]⟩ : ByteArray), (⟨#[39]⟩ : ByteArray), (⟨#[194, 160]⟩ : ByteArray), (⟨#[194, 169]⟩ : ByteArray)] (j : Int) = S at hN ⊢
  obtain ⟨h1, h2, h3, h4, h5, hm, hn4, hs2⟩ := hN
  have het := encS_size t
  have hnt := normS_le t
  have e6 : (decS ((((⟨#[120]⟩ : ByteArray) ++ ((⟨#[38]⟩ : ByteArray) ++ N)) ++ (⟨#[59]⟩ : ByteArray)) ++ encS t)).data.toList = 120 :: (S.data.toList ++ normL t.data.toList) := by
    rw [decS_data, data_append, data_append, data_append, data_append, encS_data, List.append_assoc, List.append_assoc, List.append_assoc]
    have := ref_dec N.data.toList S.data.toList (encL (normL t.data.toList)) hm
    rw [dec_enc'] at this
    show decL (120 :: (38 :: (N.data.toList ++ 59 :: encL (normL t.data.toList)))) = _
    rw [decL_plain _ _ (by decide), this]
  have s6 : ((((⟨#[120]⟩ : ByteArray) ++ ((⟨#[38]⟩ : ByteArray) ++ N)) ++ (⟨#[59]⟩ : ByteArray)) ++ encS t).size = 1 + (1 + N.size) + 1 + (encS t).size := by
    rw [size_append, size_append, size_append, size_append]; rfl
  refine Ev.pos (by omega) (Ev.pos (by omega) (Ev.bindC h1 (Ev.pos (show (j : Int) < 7 by omega) (Ev.pos rfl (Ev.bindC h2 (Ev.pos rfl (Ev.pos (by omega) (Ev.bindC h3 (Ev.pos rfl ?_)))))))))
  refine Ev.pos (by omega) (Ev.pos (by omega) (Ev.bindC h4 (Ev.pos rfl (Ev.pos (by omega) (Ev.pos (by omega) (Ev.bindC h5 (Ev.pos (by omega) (Ev.pos rfl ?_))))))))
  refine Ev.pos (by omega) (Ev.pos (by omega) (Ev.bindC (enc_ok t (by omega)) (Ev.pos (by omega) (Ev.bindC (dec_ok _ (by omega)) (Ev.pos (by omega) (Ev.bind (refNorm_ok t (by omega)) (Ev.pos (by omega) (Ev.cast (Ev.now _) ?_))))))))
  rw [list_eq, list_eq, e6, data_append, data_append, beq_iff_eq]; rfl
end Go.Proofs.YtfabijpafbhdbaaDoor.PureN
