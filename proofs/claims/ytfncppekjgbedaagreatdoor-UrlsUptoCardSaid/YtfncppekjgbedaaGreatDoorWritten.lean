/- url.written: walked. -/
import Derived.Test.YtfncppekjgbedaaGreatDoorSetOf
import Derived.Test.YtfncppekjgbedaaGreatDoorUtf
import Derived.Test.YtfncppekjgbedaaGreatDoorBuilderByte
import Derived.StillTailTactics
namespace Go.Proofs.YtfncppekjgbedaaGreatDoor.Sync
open Go.RowKit Go.Lib Go.Proofs.YtfncppekjgbedaaGreatDoor.Base Go.Proofs.YtfncppekjgbedaaGreatDoorW.PrintWords Go.Proofs.YtfncppekjgbedaaGreatDoorW.PrintLast Go.Proofs.YtfncppekjgbedaaGreatDoorW.PrintMore
open Go.Proofs.YtfncppekjgbedaaGreatDoor.Bld (writeByte writeString)
open Go.Proofs.YtfncppekjgbedaaGreatDoor.Ext (isF_step bytes_str)
set_option linter.unusedVariables false
set_option linter.unusedSimpArgs false

def inSet (l : List UInt8) (c : Nat) : Bool := hasF (ofF l 128).1 (ofF l 128).2 c
def dgU (n : Nat) : UInt8 := ([48, 49, 50, 51, 52, 53, 54, 55, 56, 57, 65, 66, 67, 68, 69, 70] : List UInt8).getD n 0
def wr1 (l : List UInt8) (b : UInt8) : List UInt8 := if inSet l b.toNat = true then [b] else [37, dgU (b.toNat / 16), dgU (b.toNat % 16)]
def wrL (l bs : List UInt8) : List UInt8 := bs.flatMap (wr1 l)
theorem wrL_snoc (l bs : List UInt8) (b : UInt8) : wrL l (bs ++ [b]) = wrL l bs ++ wr1 l b := by unfold wrL; rw [List.flatMap_append]; simp
theorem wr1_len (l : List UInt8) (b : UInt8) : (wr1 l b).length ≤ 3 := by unfold wr1; split <;> simp
theorem wrL_len (l bs : List UInt8) : (wrL l bs).length ≤ 3 * bs.length := by
  induction bs with
  | nil => simp [wrL]
  | cons b bs ih =>
    have h : wrL l (b :: bs) = wr1 l b ++ wrL l bs := rfl
    have := wr1_len l b
    rw [h, List.length_append, List.length_cons]; omega
theorem set_cell {l : List UInt8} {b : Nat} {w : World} (h : SetAt l 128 b w) : w.cell? ⟨b, 0, none⟩ = some (.int .u64 (ofF l 128).1) ∧ w.cell? ⟨b, 1, none⟩ = some (.int .u64 (ofF l 128).2) :=
  ⟨(blk_cell h 0).trans rfl, (blk_cell h 1).trans rfl⟩
theorem set_calls {l : List UInt8} {b : Nat} {w : World} (h : SetAt l 128 b w) (c : Nat) (hc : c < 256) : Calls Tryz.prog 14 #[.pointer (some ⟨b, 0, none⟩), .int .u8 c] w fun e w' => e = .returned (.bool (inSet l c)) ∧ w = w' :=
  has_calls b _ _ c w (set_cell h).1 (set_cell h).2 hc
def D16 : ByteArray := ⟨#[48, 49, 50, 51, 52, 53, 54, 55, 56, 57, 65, 66, 67, 68, 69, 70]⟩
theorem d16 : ∀ j : Fin 16, (D16.extract j.val (j.val + 1)).data.toList = [dgU j.val] := by decide +kernel
theorem d16b (j : Nat) (h : j < 16) : D16.extract j (j + 1) = ⟨#[dgU j]⟩ := by
  have := d16 ⟨j, h⟩
  cases hq : D16.extract j (j + 1) with
  | mk d =>
    rw [hq] at this
    congr
    exact Array.toList_inj.1 this
theorem slice16 (j : Nat) (h : j < 16) (W : World) : (Instr.slice 9 (.string ⟨#[48, 49, 50, 51, 52, 53, 54, 55, 56, 57, 65, 66, 67, 68, 69, 70]⟩) (some (.int .u8 (j : Int))) (some (.int .u8 ((j : Int) + 1))) none).run Tryz.prog W = .ok (.string ⟨#[dgU j]⟩) W := by
  have p0 : (0 : Int) ≤ (j : Int) := by omega
  have p1 : (j : Int) ≤ (j : Int) + 1 := by omega
  have p2 : (j : Int) + 1 ≤ 16 := by omega
  have p3 : ((j : Int) + 1).toNat = j + 1 := by omega
  have p4 := d16b j h
  unfold D16 at p4
  have p5 : (0 : Int) ≤ (j : Int) + 1 := by omega
  go_simp
theorem and15 : ∀ k : Fin 256, Go.bits .and .u8 (k.val : Int) 15 = ((k.val % 16 : Nat) : Int) := by decide +kernel
set_option maxRecDepth 100000 in
set_option maxHeartbeats 3200000 in
theorem written_calls (s : ByteArray) (l : List UInt8) (sb : Nat) (w : World) (hS : SetAt l 128 sb w) (hs : 3 * s.size ≤ 140737488355328) :
    Calls Tryz.prog 21 #[.string s, .pointer (some ⟨sb, 0, none⟩)] w fun e w' => e = .returned (.string ⟨(wrL l s.data.toList).toArray⟩) ∧ Below w.heap.size w w' := by
  have H0 := Aside0.mk (show Lib.IsBuilderF 45 5 w.heap.size w.heap.size (Lib.byteCells []) (w.alloc (.cells #[.pointer none, .slice none 0 0] 45)) from Lib.IsBuilderF.of (Lib.fresh_isBuilder 45 5 w))
  have B0 := Aside0.mk ((Below.refl _ w).alloc (Nat.le_refl w.heap.size) (.cells #[.pointer none, .slice none 0 0] 45))
  have HS := Aside0.mk hS
  have HL := Aside0.mk (show s.data.toList.length = s.size from rfl)
  have HZ := Aside0.mk hs
  clear hS
  go_enter Tryz.func21, Tryz.ntmps21
  go_wp2
  go_loopg [10] s.size (fun gg v10 wr => ∃ k : Nat, k ≤ s.size ∧ Aside0 (gg = s.size - k) ∧ v10 = .int .i64 k ∧ Aside0 (Lib.IsBuilderF 45 5 w.heap.size w.heap.size (Lib.byteCells (wrL l (s.data.toList.take k))) wr) ∧ Aside0 (Below w.heap.size w wr))
  case atStart => exact ⟨0, Nat.zero_le _, ⟨rfl⟩, rfl, H0, B0⟩
  case round =>
    clear H0 B0
    obtain ⟨k, hk, HK, rfl, HI, HB⟩ := hrel
    by_cases hlt : k < s.size
    · have hkl : k < s.data.toList.length := hlt
      obtain ⟨x, hx⟩ : ∃ x : UInt8, (s[k]'hlt) = x := ⟨_, rfl⟩
      have hxl : s.data.toList[k] = x := hx
      have hsn : wrL l (s.data.toList.take (k + 1)) = wrL l (s.data.toList.take k) ++ wr1 l x := by rw [List.take_succ_eq_append_getElem hkl, wrL_snoc, hxl]
      have hx2 : x.toNat < 256 := x.toNat_lt
      have hx256 : (x.toNat : Int) < 256 := by omega
      have hz : (k : Int) < (s.size : Int) := by omega
      have hlen : (wrL l (s.data.toList.take k)).length + 3 ≤ 140737488355328 := by
        have h1 := wrL_len l (s.data.toList.take k)
        rw [List.length_take] at h1
        have := HL.out; omega
      have HH := Aside0.mk (set_calls (show SetAt l 128 sb wr from blk_below HS.out HB.out) x.toNat hx2)
      obtain ⟨acc, hacc⟩ : ∃ acc, wrL l (s.data.toList.take k) = acc := ⟨_, rfl⟩
      rw [hacc] at HI hlen hsn
      have HSN := Aside0.mk hsn
      have HLN := Aside0.mk hlen
      clear hsn hlen hacc hxl hkl
      by_cases hq : inSet l x.toNat = true
      · rw [hq] at HH
        have h1 : wr1 l x = [x] := by unfold wr1; rw [if_pos hq]
        have HW := Aside0.mk (writeByte w.heap.size w.heap.size (Lib.byteCells acc) (x.toNat : Int) wr HI.out (by rw [Lib.byteCells_length]; have := HLN.out; omega) HB.out.size)
        have H1 := Aside0.mk h1
        clear hq h1 hx2
        go_wp2_with (first
          | (go_at_call 14; refine HH.out.mono ?_; rintro e w2 ⟨rfl, rfl⟩)
          | (go_at_call 35; refine HW.out.mono ?_; rintro e w2 ⟨rfl, hi2, hb2, _⟩))
        go_roundg (s.size - (k + 1))
        case rel => exact ⟨k + 1, by omega, ⟨rfl⟩, by go_num, ⟨by rw [HSN.out, H1.out, Lib.byteCells_append]; exact .inr hi2⟩, ⟨HB.out.trans hb2⟩⟩
        case measure => have := HK.out; omega
      · have hq : inSet l x.toNat = false := by simpa using hq
        rw [hq] at HH
        have h1 : wr1 l x = [37, dgU (x.toNat / 16), dgU (x.toNat % 16)] := by unfold wr1; rw [if_neg (by rw [hq]; decide)]
        have H1 := Aside0.mk h1
        clear hq h1
        go_upto_region 8 with (first
          | (go_at_call 14; refine HH.out.mono ?_; rintro e w2 ⟨rfl, rfl⟩))
        obtain ⟨hi, hhi⟩ : ∃ hi, x.toNat / 16 = hi := ⟨_, rfl⟩
        obtain ⟨lo, hlo⟩ : ∃ lo, x.toNat % 16 = lo := ⟨_, rfl⟩
        rw [hhi, hlo] at H1
        have e1 : (x.toNat : Int) / 16 = (hi : Int) := by omega
        have e2 : Go.bits .and .u8 (x.toNat : Int) 15 = (lo : Int) := by rw [← hlo]; exact and15 ⟨x.toNat, hx2⟩
        have e3 : IntKind.u8.wrap ((hi : Int) + 1) = (hi : Int) + 1 := by unfold IntKind.wrap; simp [IntKind.signed, IntKind.bits]; omega
        have e4 : IntKind.u8.wrap ((lo : Int) + 1) = (lo : Int) + 1 := by unfold IntKind.wrap; simp [IntKind.signed, IntKind.bits]; omega
        have e5 := fun W => slice16 hi (by omega) W
        have e6 := fun W => slice16 lo (by omega) W
        clear hhi hlo
        refine wp_region_still_tail 14 (by kernel_rfl) (by kernel_rfl) ?_
        simp only [List.take_succ_cons, List.take_zero, List.drop_succ_cons, List.drop_zero]
        repeat still_step
        refine wpStill_nil ?_
        clear e1 e2 e3 e4 e5 e6
        have HW := Aside0.mk (fun (t : ByteArray) (ht : t.size = 3) => writeString w.heap.size w.heap.size (Lib.byteCells acc) t wr.drew (isF_step HI.out (below_drew (Below.refl _ _))) (by rw [Lib.byteCells_length, ht]; exact HLN.out) (below_drew HB.out).size)
        go_wp2_with (go_at_call 33; refine (HW.out _ (by rw [size_append, size_append]; rfl)).mono ?_; rintro e w2 ⟨rfl, hi2, hb2, _⟩)
        rw [bytes_str, data_append, data_append] at hi2
        have HI2 := Aside0.mk hi2
        have HB2 := Aside0.mk ((below_drew HB.out).trans hb2)
        clear hi2 hb2
        go_roundg (s.size - (k + 1))
        case rel => exact ⟨k + 1, by omega, ⟨rfl⟩, by go_num, ⟨by rw [HSN.out, H1.out]; exact .inr HI2.out⟩, HB2⟩
        case measure => have := HK.out; omega
    · obtain rfl : k = s.size := by omega
      have e : s.data.toList.take s.size = s.data.toList := List.take_of_length_le (by rw [HL.out]; exact Nat.le_refl _)
      have HStr := Aside0.mk (Tryz.Builder_String_any_f w.heap.size w.heap.size _ wr HI.out HB.out.size)
      rw [e] at HStr
      have hz : ¬ ((s.size : Int) < (s.size : Int)) := by omega
      clear hlt hk e
      go_wp2_with (go_at_call 34; refine HStr.out.mono ?_; rintro e w2 ⟨rfl, _, hb2⟩)
      go_ret
      exact ⟨rfl, HB.out.trans hb2⟩
end Go.Proofs.YtfncppekjgbedaaGreatDoor.Sync
