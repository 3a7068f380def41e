/- utf.LowerByte and utf.Lower: what they answer. -/
import Derived.Test.YtfncppekjgbedaaGreatDoorUtf
import Derived.Lib.ConvBytes
import Derived.Laws.IdiomStrings
namespace Go.Proofs.YtfncppekjgbedaaGreatDoor.Ext
open Go.RowKit Go.Lib Go.Proofs.YtfncppekjgbedaaGreatDoorW.PrintWords Go.Proofs.YtfncppekjgbedaaGreatDoorW.PrintLast Go.Proofs.YtfncppekjgbedaaGreatDoorW.PrintMore Go.Proofs.YtfncppekjgbedaaGreatDoor.Utf

def lowN (c : Nat) : Nat := if 65 ≤ c ∧ c ≤ 90 then c + 32 else c
def lowB (b : UInt8) : UInt8 := UInt8.ofNat (lowN b.toNat)
theorem low_lt {c : Nat} (h : c < 256) : lowN c < 256 := by unfold lowN; split <;> omega
theorem lowB_nat (b : UInt8) : (lowB b).toNat = lowN b.toNat := by
  unfold lowB
  rw [UInt8.toNat_ofNat', Nat.mod_eq_of_lt (by simpa using low_lt b.toNat_lt)]
theorem lowByte_calls (c : Nat) (w : World) :
    Calls Tryz.prog 28 #[.int .u8 (c : Int)] w fun e w' => e = .returned (.int .u8 (lowN c : Nat)) ∧ w = w' := by
  by_cases h1 : 65 ≤ c
  · have d1 : decide ((65 : Int) ≤ (c : Int)) = true := decide_eq_true (by omega)
    by_cases h2 : c ≤ 90
    · have d2 : decide ((c : Int) ≤ 90) = true := decide_eq_true (by omega)
      have hf : ((lowN c : Nat) : Int) = (c : Int) + 32 := by unfold lowN; rw [if_pos ⟨h1, h2⟩]; omega
      have HF := Aside0.mk hf
      clear hf
      have g1 : (65 : Int) ≤ c := by omega
      have g2 : (c : Int) ≤ 90 := by omega
      go_enter Tryz.func28, Tryz.ntmps28
      go_wp2
      go_ret
      refine ⟨?_, rfl⟩
      rw [HF.out]
      show Ending.returned (Value.int .u8 _) = _
      congr 2
      omega
    · have d2 : decide ((c : Int) ≤ 90) = false := decide_eq_false (by omega)
      have hf : lowN c = c := by unfold lowN; rw [if_neg (fun h => h2 h.2)]
      have HF := Aside0.mk hf
      clear hf
      go_enter Tryz.func28, Tryz.ntmps28
      go_wp2
      go_ret
      exact ⟨by rw [HF.out]; rfl, rfl⟩
  · have d1 : decide ((65 : Int) ≤ (c : Int)) = false := decide_eq_false (by omega)
    have hf : lowN c = c := by unfold lowN; rw [if_neg (fun h => h1 h.1)]
    have HF := Aside0.mk hf
    clear hf
    go_enter Tryz.func28, Tryz.ntmps28
    go_wp2
    go_ret
    exact ⟨by rw [HF.out]; rfl, rfl⟩

/-- '[]byte(s)': a new row. -/
theorem conv_new (s : ByteArray) (w : World) : ∃ cap W1, (convert 9 30 (.string s)).run Tryz.prog w = .ok (.slice (some ⟨w.heap.size, 0, none⟩) s.size cap) W1 ∧
    (∀ j, j < s.size → W1.cell? ⟨w.heap.size, j, none⟩ = some (.int .u8 ((s.data.toList.getD j 0).toNat : Nat))) ∧ (∀ j, j < s.size → W1.frozen? ⟨w.heap.size, j, none⟩ = false) ∧ Below w.heap.size w W1 ∧ w.heap.size < W1.heap.size := by
  refine ⟨_, _, Lib.run_convert_string_bytes w 9 30 5 s Tryz.underlying9 Tryz.underlying30 Tryz.underlying5, fun j hj => bytesWorld_cell w 5 s j hj, fun j hj => ?_, ?_, by rw [bytesWorld_size]; omega⟩
  · have hcs : s.size ≤ (bytesCells w 5 s).size := by
      unfold bytesCells
      rw [Array.size_append, Array.size_map]
      exact Nat.le_add_right _ _
    unfold World.frozen?
    rw [bytesWorld_at_new]
    simp only [Bool.and_eq_false_iff, decide_eq_false_iff_not]
    omega
  · exact ⟨rfl, rfl, rfl, by rw [bytesWorld_size]; omega, fun k hk => bytesWorld_at_old w 5 s k hk⟩

theorem map_get (l : List UInt8) (j : Nat) (h : j < l.length) : (l.map lowB)[j]'(by simpa using h) = lowB (l.getD j 0) := by
  rw [List.getElem_map, List.getD_eq_getElem?_getD, List.getElem?_eq_getElem h, Option.getD_some]

/-- What holds of the row ahead of round k. -/
def LowAt (b : Nat) (s : ByteArray) (k : Nat) (w : World) : Prop :=
  (∀ j, j < s.size → w.cell? ⟨b, j, none⟩ = some (.int .u8 ((if j < k then lowN (s.data.toList.getD j 0).toNat else (s.data.toList.getD j 0).toNat : Nat) : Nat))) ∧ (∀ j, j < s.size → w.frozen? ⟨b, j, none⟩ = false)

theorem lowAt_step {b : Nat} {s : ByteArray} {k : Nat} {w : World} (h : LowAt b s k w) (hk : k < s.size) : LowAt b s (k + 1) (w.setCell ⟨b, k, none⟩ (.int .u8 ((lowN (s.data.toList.getD k 0).toNat : Nat) : Nat))) := by
  refine ⟨fun j hj => ?_, fun j hj => ?_⟩
  · by_cases e : j = k
    · subst e
      rw [World.cell?_setCell_same _ _ _ (h.1 j hj), if_pos (by omega)]
    · rw [World.cell?_setCell_other _ _ _ _ (fun e' => e (by injection e' with e1 e2; omega)), h.1 j hj]
      by_cases h2 : j < k
      · rw [if_pos h2, if_pos (by omega)]
      · rw [if_neg h2, if_neg (by omega)]
  · rw [World.frozen?_setCell]; exact h.2 j hj

set_option maxHeartbeats 1600000 in
theorem lower_calls (s : ByteArray) (w : World) (hs : s.size ≤ 4611686018427387904) :
    Calls Tryz.prog 15 #[.string s] w fun e w' => e = .returned (.string ⟨(s.data.toList.map lowB).toArray⟩) ∧ Below w.heap.size w w' := by
  obtain ⟨cap, W1, hconv, hc, hfz, hb, hsz⟩ := conv_new s w
  have hl : s.data.toList.length = s.size := by rw [Array.length_toList]; rfl
  have HB := Aside0.mk hb
  have HS := Aside0.mk hsz
  have H0 : Aside0 (LowAt w.heap.size s 0 W1) := ⟨⟨fun j hj => by rw [hc j hj, if_neg (by omega)], hfz⟩⟩
  clear hb hsz hc hfz
  go_enter Tryz.func15, Tryz.ntmps15
  go_wp2
  clear hconv
  go_loopw [10] (fun i wr => ∃ k : Nat, k ≤ s.size ∧ i = .int .i64 k ∧ LowAt w.heap.size s k wr ∧ Below w.heap.size w wr)
    (fun i _ => s.size - (RowKit.intOf i).toNat)
  case atStart => exact ⟨0, Nat.zero_le _, rfl, H0.out, HB.out⟩
  case round =>
    obtain ⟨k, hk, rfl, hla, hbl⟩ := hrel
    have HL := Aside0.mk hla
    have HX := Aside0.mk hbl
    clear hla hbl H0 HB HS
    by_cases hlt : k < s.size
    · have hcell : wr.cell? ⟨w.heap.size, k, none⟩ = some (.int .u8 ((s.data.toList.getD k 0).toNat : Nat)) := by
        rw [HL.out.1 k hlt, if_neg (by omega)]
      have hfr := HL.out.2 k hlt
      obtain ⟨c, hce⟩ : ∃ c, (s.data.toList.getD k 0).toNat = c := ⟨_, rfl⟩
      have HST : Aside0 (LowAt w.heap.size s (k + 1) (wr.setCell ⟨w.heap.size, k, none⟩ (.int .u8 ((lowN c : Nat) : Nat)))) := ⟨by
        have := lowAt_step HL.out hlt
        rwa [hce] at this⟩
      rw [hce] at hcell
      clear hce
      have HK := Aside0.mk hl
      clear hl
      go_wp2_with (go_at_call 28; refine (lowByte_calls c _).mono ?_; rintro e w2 ⟨rfl, rfl⟩)
      go_roundw
      case rel => exact ⟨k + 1, by omega, by go_num, HST.out, HX.out.setCell (p := ⟨w.heap.size, k, none⟩) (Nat.le_refl _) _⟩
      case measure => simp [RowKit.intOf]; omega
    · have hke : k = s.size := by omega
      have hlen : (s.data.toList.map lowB).length = s.size := by rw [List.length_map, hl]
      have hback : (convert 30 9 (.slice (some ⟨w.heap.size, 0, none⟩) s.size cap)).run Tryz.prog wr = .ok (.string ⟨(s.data.toList.map lowB).toArray⟩) wr := by
        have := run_convert_bytes_back wr 30 9 5 ⟨w.heap.size, 0, none⟩ cap (s.data.toList.map lowB) Tryz.underlying30 Tryz.underlying5 Tryz.underlying9 (fun j hj => by
          have hj' : j < s.size := by omega
          rw [map_get _ _ (by omega), lowB_nat]
          have := HL.out.1 j hj'
          rw [if_pos (by omega)] at this
          rw [show (⟨w.heap.size, 0, none⟩ : Addr).add j = ⟨w.heap.size, j, none⟩ from by unfold Addr.add; split <;> simp_all]
          exact this)
        rwa [hlen] at this
      clear hke hlen
      have HK := Aside0.mk hl
      clear hl
      go_wp2
      go_ret
      exact ⟨rfl, HX.out⟩
end Go.Proofs.YtfncppekjgbedaaGreatDoor.Ext
