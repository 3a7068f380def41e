/- Laid by xprint.py, a program of this session over the kit's print: for each Go function one Lean function of the same answers, and the walk that shows it. -/
import Derived.Test.YtfabijpafbhdbaaDoorXR0
import Derived.Test.YtfabijpafbhdbaaDoorXR3
import Derived.Test.YtfabijpafbhdbaaDoorXR5
import Derived.Test.YtfabijpafbhdbaaDoorXR6
namespace Go.Proofs.YtfabijpafbhdbaaDoor.XR
open Go.RowKit Go.Proofs.YtfabijpafbhdbaaDoor.Ext Go.Proofs.YtfabijpafbhdbaaDoorW.PrintWords Go.Proofs.YtfabijpafbhdbaaDoorW.PrintLast Go.Proofs.YtfabijpafbhdbaaDoorW.PrintMore
attribute [local go_sem] max2_int min2_int max_two min_two max_three min_three max_four min_four   -- for this text's walks alone
set_option linter.unusedVariables false
set_option linter.unusedSimpArgs false

/-! ### stolelaw2_RefNumbers: function 5 -/
def stolelaw2_RefNumbers.l0 : Nat → ByteArray → Int → ByteArray → Int → Option (Bool)
 | 0, _, _, _, _ => none
 | k + 1, x1, x5, x6, x7 => if x7 > 0 then (if 0 ≤ (Go.bits .and .i64 x7 15) then (if (Go.bits .and .i64 x7 15) < 16 then ((some (([bt (⟨#[48, 49, 50, 51, 52, 53, 54, 55, 56, 57, 97, 66, 99, 68, 101, 70]⟩ : ByteArray) (Go.bits .and .i64 x7 15)] : List Int) : List Int)).bind fun y217 => (if (strOfNums y217).size + x6.size ≤ 9223372036854775807 then (stolelaw2_RefNumbers.l0 k x1 x5 ((strOfNums y217) ++ x6) (x7 / 16)) else (none))) else (none)) else (none)) else (if x6.toList = ([] : List UInt8) then (if 0 ≤ (Go.bits .and .i64 x7 15) then (if (Go.bits .and .i64 x7 15) < 16 then ((some (([bt (⟨#[48, 49, 50, 51, 52, 53, 54, 55, 56, 57, 97, 66, 99, 68, 101, 70]⟩ : ByteArray) (Go.bits .and .i64 x7 15)] : List Int) : List Int)).bind fun y220 => (if (strOfNums y220).size + x6.size ≤ 9223372036854775807 then (stolelaw2_RefNumbers.l0 k x1 x5 ((strOfNums y220) ++ x6) (x7 / 16)) else (none))) else (none)) else (none)) else ((stoleref1_Rune.f k x5).bind fun t223 => ((stoleref0_Decimal.f k x5).bind fun t226 => (if 2 + t226.size ≤ 9223372036854775807 then (if 2 + t226.size + 1 ≤ 9223372036854775807 then ((refs_Decode.f (((⟨#[38, 35]⟩ : ByteArray) ++ t226) ++ (⟨#[59]⟩ : ByteArray))).bind fun t227 => (if 3 + x6.size ≤ 9223372036854775807 then (if 3 + x6.size + 1 ≤ 9223372036854775807 then ((refs_Decode.f (((⟨#[38, 35, 120]⟩ : ByteArray) ++ x6) ++ (⟨#[59]⟩ : ByteArray))).bind fun t228 => ((refs_Decode.f (((⟨#[38, 35, 88]⟩ : ByteArray) ++ x6) ++ (⟨#[59]⟩ : ByteArray))).bind fun t229 => (if t227.toList = (strOfNums t223).toList then (if t228.toList = (strOfNums t223).toList then (if t229.toList = (strOfNums t223).toList then ((stoleref0_Decimal.f k x5).bind fun t230 => (if 2 + t230.size ≤ 9223372036854775807 then (if 2 + t230.size + 1 ≤ 9223372036854775807 then (if 2 + t230.size + 1 + 4 ≤ 9223372036854775807 then ((refs_Decode.f ((((⟨#[38, 35]⟩ : ByteArray) ++ t230) ++ (⟨#[59]⟩ : ByteArray)) ++ (⟨#[38, 108, 116, 59]⟩ : ByteArray))).bind fun t231 => (if (strOfNums t223).size + 1 ≤ 9223372036854775807 then (if t231.toList = ((strOfNums t223) ++ (⟨#[60]⟩ : ByteArray)).toList then ((refs_Decode.f ((⟨#[38, 35, 120]⟩ : ByteArray) ++ x6)).bind fun t232 => (if t232.toList = ((⟨#[38, 35, 120]⟩ : ByteArray) ++ x6).toList then ((refs_Decode.f (⟨#[38, 35, 59, 38, 35, 120, 59, 38, 59]⟩ : ByteArray)).bind fun t233 => (if t233.toList = ([38, 35, 59, 38, 35, 120, 59, 38, 59] : List UInt8) then (if x1.toList = ([] : List UInt8) then (some true) else ((refs_Encode.f x1).bind fun t234 => (if 1 + t234.size ≤ 9223372036854775807 then ((refs_Decode.f ((⟨#[60]⟩ : ByteArray) ++ t234)).bind fun t235 => ((stoleref1_Norm.f k x1).bind fun t236 => (if 1 + t236.size ≤ 9223372036854775807 then (some (t235.toList == ((⟨#[60]⟩ : ByteArray) ++ t236).toList)) else (none)))) else (none)))) else (some false))) else (some false))) else (some false)) else (none))) else (none)) else (none)) else (none))) else (some false)) else (some false)) else (some false)))) else (none)) else (none))) else (none)) else (none)))))
def stolelaw2_RefNumbers.f (k : Nat) (a0 : Int) (a1 : ByteArray) : Option (Bool) := (stolelaw2_awake.f).bind fun t216 => (if t216 = true then (stolelaw2_RefNumbers.l0 k a1 (Go.bits .and .i64 a0 2097151) (⟨#[]⟩ : ByteArray) (Go.bits .and .i64 a0 2097151)) else (some false))
theorem stolelaw2_RefNumbers.mono_l : ∀ k, (∀ y0 y1 y2 y3, LeO (stolelaw2_RefNumbers.l0 k y0 y1 y2 y3) (stolelaw2_RefNumbers.l0 (k + 1) y0 y1 y2 y3))
 | 0 => fun _ _ _ _ r h => by simp [stolelaw2_RefNumbers.l0] at h
 | k + 1 => by
  have ih0 := stolelaw2_RefNumbers.mono_l k
  ·intro y0 y1 y2 y3
   unfold stolelaw2_RefNumbers.l0
   repeat' first
   | (with_reducible exact ih0 _ _ _ _)
   | (with_reducible exact stoleref0_Decimal.mono _ _)
   | (with_reducible exact stoleref1_Norm.mono _ _)
   | (with_reducible exact stoleref1_Rune.mono _ _)
   | (with_reducible exact LeO.refl _)
   | (with_reducible exact LeO.none _)
   | (with_reducible refine LeO.ite ?_ ?_)
   | (with_reducible refine LeO.bind ?_ (fun _ => ?_))
   | exact ih0 _ _ _ _
   | exact stoleref0_Decimal.mono _ _
   | exact stoleref1_Norm.mono _ _
   | exact stoleref1_Rune.mono _ _
   | exact LeO.none _
   | refine LeO.ite ?_ ?_
   | refine LeO.bind ?_ (fun _ => ?_)
theorem stolelaw2_RefNumbers.mono : ∀ a0 a1 k, LeO (stolelaw2_RefNumbers.f k a0 a1) (stolelaw2_RefNumbers.f (k + 1) a0 a1) := by
 intro a0 a1 k
 have ih0 := stolelaw2_RefNumbers.mono_l k
 unfold stolelaw2_RefNumbers.f
 repeat' first
   | (with_reducible exact ih0 _ _ _ _)
   | (with_reducible exact stoleref0_Decimal.mono _ _)
   | (with_reducible exact stoleref1_Norm.mono _ _)
   | (with_reducible exact stoleref1_Rune.mono _ _)
   | (with_reducible exact LeO.refl _)
   | (with_reducible exact LeO.none _)
   | (with_reducible refine LeO.ite ?_ ?_)
   | (with_reducible refine LeO.bind ?_ (fun _ => ?_))
   | exact ih0 _ _ _ _
   | exact stoleref0_Decimal.mono _ _
   | exact stoleref1_Norm.mono _ _
   | exact stoleref1_Rune.mono _ _
   | exact LeO.none _
   | refine LeO.ite ?_ ?_
   | refine LeO.bind ?_ (fun _ => ?_)
set_option maxHeartbeats 8000000 in
set_option maxRecDepth 100000 in
theorem stolelaw2_RefNumbers.calls (k : Nat) (a0 : Int) (a1 : ByteArray) (r : Bool) (w : World) (hT : Tabs w) (h : stolelaw2_RefNumbers.f k a0 a1 = some r) :
  Calls Tryd.prog 5 #[.int .i64 a0, .string a1] w fun e w' => e = .returned (.bool r) ∧ Below w.heap.size w w' := by
 have HT := Aside0.mk hT
 clear hT
 have HB := Aside0.mk (Below.refl w.heap.size w)
 have H : ((stolelaw2_awake.f).bind fun t216 => (if t216 = true then (stolelaw2_RefNumbers.l0 k a1 (Go.bits .and .i64 a0 2097151) (⟨#[]⟩ : ByteArray) (Go.bits .and .i64 a0 2097151)) else (some false))) = some r := h
 clear h
 replace H := Option.bind_eq_some_iff.mp H
 obtain ⟨t216, A30, H⟩ := H
 replace H : (if t216 = true then (stolelaw2_RefNumbers.l0 k a1 (Go.bits .and .i64 a0 2097151) (⟨#[]⟩ : ByteArray) (Go.bits .and .i64 a0 2097151)) else (some false)) = some r := H
 have A3 := Aside0.mk A30
 clear A30
 by_cases c4 : t216 = true
 ·subst c4
  have H1 : (stolelaw2_RefNumbers.l0 k a1 (Go.bits .and .i64 a0 2097151) (⟨#[]⟩ : ByteArray) (Go.bits .and .i64 a0 2097151)) = some r := by rw [if_pos rfl] at H; exact H
  clear H
  have H := H1
  clear H1
  have H' := Aside0.mk H
  clear H
  go_enter Tryd.func5, Tryd.ntmps5
  go_wp2_with (first | ((with_reducible refine gate_callee (f := 13) rfl ?_); refine goesL_ (some 12) rfl rfl Tryd.func13 (by kernel_rfl) rfl #[] rfl (by (try simp only [List.map_toArray, List.map_cons, List.map_nil]); first | done | rfl | (simp only [List.length_drop, List.length_take]; rfl)) ?_; (with_reducible refine (stolelaw2_awake.calls  true _ (tabs_below HT.out (by repeat (first | (with_reducible first | exact HB.out | apply below_alloc | apply pw_below_drewN | apply below_drew1) | exact HB.out))) A3.out).mono ?_); rintro e w5 ⟨rfl, hb⟩; refine ⟨_, rfl, ?_⟩; have n0_ := Aside0.mk (below_step (by repeat (first | (with_reducible first | exact HB.out | apply below_alloc | apply pw_below_drewN | apply below_drew1) | exact HB.out)) hb); clear HB; have HB := n0_; clear n0_; (try clear hb); (try clear hb2); (try clear hk); (try clear hi)))
  go_loopg [6, 7] k (fun kq v6 v7 w' => ∃ (x6_1 : ByteArray) (x7_1 : Int), v6 = .string x6_1 ∧ v7 = .int .i64 x7_1 ∧ Aside0 (stolelaw2_RefNumbers.l0 kq a1 (Go.bits .and .i64 a0 2097151) x6_1 x7_1 = some r) ∧ Aside0 (kq ≤ k) ∧ Aside0 (Below w.heap.size w w'))
  case atStart => exact ⟨((⟨#[]⟩ : ByteArray)), (Go.bits .and .i64 a0 2097151), (by first | rfl | (simp; done) | (simp [*]; done)), (by first | rfl | (simp; done) | (simp [*]; done)), H', ⟨Nat.le_refl _⟩, ⟨by repeat (first | (with_reducible first | exact HB.out | apply below_alloc | apply pw_below_drewN | apply below_drew1) | exact HB.out)⟩⟩
  case round =>
   clear H'
   try clear c1
   try clear p2
   try clear c4
   try clear c5
   obtain ⟨x6_1, x7_1, rfl, rfl, HA, HK1, HB⟩ := hrel
   cases gk with
   | zero => exact absurd HA.out (by simp [stolelaw2_RefNumbers.l0])
   | succ k1 =>
    have H := HA.out
    clear HA
    simp only [stolelaw2_RefNumbers.l0] at H
    by_cases c6 : x7_1 > 0
    ·rw [if_pos c6] at H
     have c6b0 : decide (0 < x7_1) = true := decide_eq_true c6
     clear c6
     by_cases c7 : 0 ≤ (Go.bits .and .i64 x7_1 15)
     ·rw [if_pos c7] at H
      have c7b0 : decide (0 ≤ (Go.bits .and .i64 x7_1 15)) = true := decide_eq_true c7
      clear c7
      by_cases c8 : (Go.bits .and .i64 x7_1 15) < 16
      ·rw [if_pos c8] at H
       have c8b0 : decide ((Go.bits .and .i64 x7_1 15) < 16) = true := decide_eq_true c8
       clear c8
       obtain ⟨y217, hy217⟩ : ∃ y_ : List Int, y_ = (([bt (⟨#[48, 49, 50, 51, 52, 53, 54, 55, 56, 57, 97, 66, 99, 68, 101, 70]⟩ : ByteArray) (Go.bits .and .i64 x7_1 15)] : List Int)) := ⟨_, rfl⟩
       replace H : (if (strOfNums y217).size + x6_1.size ≤ 9223372036854775807 then (stolelaw2_RefNumbers.l0 k1 a1 (Go.bits .and .i64 a0 2097151) ((strOfNums y217) ++ x6_1) (x7_1 / 16)) else (none)) = some r := by first | (rw [hy217]; with_reducible exact H) | (have H2_ := (Option.bind_some _ _).symm.trans H; rw [hy217]; with_reducible exact H2_) | (have H2_ := (Option.bind_some _ _).symm.trans H; with_reducible exact H2_) | with_reducible exact H | (rw [hy217]; exact H) | exact H
       have Ny217 := Aside0.mk hy217
       clear hy217
       by_cases c10 : (strOfNums y217).size + x6_1.size ≤ 9223372036854775807
       ·rw [if_pos c10] at H
        have c10b0 := eq_true c10
        have c10b1 : decide ((strOfNums y217).size + x6_1.size ≤ 9223372036854775807) = true := decide_eq_true c10
        try have c10b2 : (9223372036854775807 < (strOfNums y217).size + x6_1.size) = False := eq_false (Nat.not_lt.2 c10)
        have H' := Aside0.mk H
        clear H
        have p9 : 0 ≤ ((Go.bits .and .i64 x7_1 15) : Int) := of_decide_eq_true (by first | (with_reducible assumption) | assumption)
        have q9 : (Go.bits .and .i64 x7_1 15) < (16 : Int) := of_decide_eq_true (by first | (with_reducible assumption) | assumption)
        have hx9 := bt_at (⟨#[48, 49, 50, 51, 52, 53, 54, 55, 56, 57, 97, 66, 99, 68, 101, 70]⟩ : ByteArray) (Go.bits .and .i64 x7_1 15)
        replace p9 := eq_true p9
        replace q9 := eq_true q9
        go_wp2_with (first | ((with_reducible refine gate_dst (N := 28) rfl ?_); refine Kd.R_lit (Kd.int .u8) _ 5 ?hg (N := 28) ?hd (xs := ([bt (⟨#[48, 49, 50, 51, 52, 53, 54, 55, 56, 57, 97, 66, 99, 68, 101, 70]⟩ : ByteArray) (Go.bits .and .i64 x7_1 15)] : List Int)) (inner := [.int .u8 (bt (⟨#[48, 49, 50, 51, 52, 53, 54, 55, 56, 57, 97, 66, 99, 68, 101, 70]⟩ : ByteArray) (Go.bits .and .i64 x7_1 15))]) (ok := fun _ => True) (okp := fun _ => True) ?hr ?hp (fun _ hk => hk) trivial (Below.refl _ _) (Nat.le_refl _) (by simp) ?_; (case hd => rfl); (case hg => rfl); (case hr => first | (go_simp; done) | (go_simp; rfl)); (case hp => exact (Reps.one (show Kd.M (Kd.int .u8) _ _ _ (bt (⟨#[48, 49, 50, 51, 52, 53, 54, 55, 56, 57, 97, 66, 99, 68, 101, 70]⟩ : ByteArray) (Go.bits .and .i64 x7_1 15)) [.int .u8 (bt (⟨#[48, 49, 50, 51, 52, 53, 54, 55, 56, 57, 97, 66, 99, 68, 101, 70]⟩ : ByteArray) (Go.bits .and .i64 x7_1 15))] from rfl) (Reps.none _ _))); intro v218 w11 ho12 hb hg_ hnew_; clear hg_ hnew_; (first | rw [← Ny217.out] at ho12 | (simp only [Int.reduceToNat] at ho12; rw [← Ny217.out] at ho12)); have n0_ := Aside0.mk (Kd.R_lower ho12 (below_size (by repeat (first | (with_reducible first | exact HB.out | apply below_alloc | apply pw_below_drewN | apply below_drew1) | exact HB.out)))); have n1_ := Aside0.mk (below_step (by repeat (first | (with_reducible first | exact HB.out | apply below_alloc | apply pw_below_drewN | apply below_drew1) | exact HB.out)) hb); clear HB; have HO219 := n0_; have HB := n1_; clear n0_ n1_; clear hb ho12; have hcv13 := own_string (P := Tryd.prog) Tryd.underlying27 Tryd.underlying5 Tryd.underlying9 (Kd.own_of_R HO219.out)))
        go_roundg k1
        case measure => have := HK1.out; omega
        case rel => exact ⟨((strOfNums y217) ++ x6_1), (x7_1 / 16), (by first | rfl | (simp; done) | (simp [*]; done)), (by first | rfl | (simp; done) | (simp [*]; done)), H', ⟨by have := HK1.out; omega⟩, ⟨by repeat (first | (with_reducible first | exact HB.out | apply below_alloc | apply pw_below_drewN | apply below_drew1) | exact HB.out)⟩⟩
       ·rw [if_neg c10] at H
        exact absurd H (by simp)
      ·rw [if_neg c8] at H
       exact absurd H (by simp)
     ·rw [if_neg c7] at H
      exact absurd H (by simp)
    ·rw [if_neg c6] at H
     have c6b0 : decide (0 < x7_1) = false := decide_eq_false c6
     clear c6
     by_cases c14 : x6_1.toList = ([] : List UInt8)
     ·rw [if_pos c14] at H
      have c14b0 : (x6_1.toList == ([] : List UInt8)) = true := beq_iff_eq.mpr c14
      have c14b1 : (x6_1.toList != ([] : List UInt8)) = false := bne_eq_false_iff_eq.mpr c14
      clear c14
      by_cases c15 : 0 ≤ (Go.bits .and .i64 x7_1 15)
      ·rw [if_pos c15] at H
       have c15b0 : decide (0 ≤ (Go.bits .and .i64 x7_1 15)) = true := decide_eq_true c15
       clear c15
       by_cases c16 : (Go.bits .and .i64 x7_1 15) < 16
       ·rw [if_pos c16] at H
        have c16b0 : decide ((Go.bits .and .i64 x7_1 15) < 16) = true := decide_eq_true c16
        clear c16
        obtain ⟨y220, hy220⟩ : ∃ y_ : List Int, y_ = (([bt (⟨#[48, 49, 50, 51, 52, 53, 54, 55, 56, 57, 97, 66, 99, 68, 101, 70]⟩ : ByteArray) (Go.bits .and .i64 x7_1 15)] : List Int)) := ⟨_, rfl⟩
        replace H : (if (strOfNums y220).size + x6_1.size ≤ 9223372036854775807 then (stolelaw2_RefNumbers.l0 k1 a1 (Go.bits .and .i64 a0 2097151) ((strOfNums y220) ++ x6_1) (x7_1 / 16)) else (none)) = some r := by first | (rw [hy220]; with_reducible exact H) | (have H2_ := (Option.bind_some _ _).symm.trans H; rw [hy220]; with_reducible exact H2_) | (have H2_ := (Option.bind_some _ _).symm.trans H; with_reducible exact H2_) | with_reducible exact H | (rw [hy220]; exact H) | exact H
        have Ny220 := Aside0.mk hy220
        clear hy220
        by_cases c18 : (strOfNums y220).size + x6_1.size ≤ 9223372036854775807
        ·rw [if_pos c18] at H
         have c18b0 := eq_true c18
         have c18b1 : decide ((strOfNums y220).size + x6_1.size ≤ 9223372036854775807) = true := decide_eq_true c18
         try have c18b2 : (9223372036854775807 < (strOfNums y220).size + x6_1.size) = False := eq_false (Nat.not_lt.2 c18)
         have H' := Aside0.mk H
         clear H
         have p17 : 0 ≤ ((Go.bits .and .i64 x7_1 15) : Int) := of_decide_eq_true (by first | (with_reducible assumption) | assumption)
         have q17 : (Go.bits .and .i64 x7_1 15) < (16 : Int) := of_decide_eq_true (by first | (with_reducible assumption) | assumption)
         have hx17 := bt_at (⟨#[48, 49, 50, 51, 52, 53, 54, 55, 56, 57, 97, 66, 99, 68, 101, 70]⟩ : ByteArray) (Go.bits .and .i64 x7_1 15)
         replace p17 := eq_true p17
         replace q17 := eq_true q17
         go_wp2_with (first | ((with_reducible refine gate_dst (N := 28) rfl ?_); refine Kd.R_lit (Kd.int .u8) _ 5 ?hg (N := 28) ?hd (xs := ([bt (⟨#[48, 49, 50, 51, 52, 53, 54, 55, 56, 57, 97, 66, 99, 68, 101, 70]⟩ : ByteArray) (Go.bits .and .i64 x7_1 15)] : List Int)) (inner := [.int .u8 (bt (⟨#[48, 49, 50, 51, 52, 53, 54, 55, 56, 57, 97, 66, 99, 68, 101, 70]⟩ : ByteArray) (Go.bits .and .i64 x7_1 15))]) (ok := fun _ => True) (okp := fun _ => True) ?hr ?hp (fun _ hk => hk) trivial (Below.refl _ _) (Nat.le_refl _) (by simp) ?_; (case hd => rfl); (case hg => rfl); (case hr => first | (go_simp; done) | (go_simp; rfl)); (case hp => exact (Reps.one (show Kd.M (Kd.int .u8) _ _ _ (bt (⟨#[48, 49, 50, 51, 52, 53, 54, 55, 56, 57, 97, 66, 99, 68, 101, 70]⟩ : ByteArray) (Go.bits .and .i64 x7_1 15)) [.int .u8 (bt (⟨#[48, 49, 50, 51, 52, 53, 54, 55, 56, 57, 97, 66, 99, 68, 101, 70]⟩ : ByteArray) (Go.bits .and .i64 x7_1 15))] from rfl) (Reps.none _ _))); intro v221 w19 ho20 hb hg_ hnew_; clear hg_ hnew_; (first | rw [← Ny220.out] at ho20 | (simp only [Int.reduceToNat] at ho20; rw [← Ny220.out] at ho20)); have n0_ := Aside0.mk (Kd.R_lower ho20 (below_size (by repeat (first | (with_reducible first | exact HB.out | apply below_alloc | apply pw_below_drewN | apply below_drew1) | exact HB.out)))); have n1_ := Aside0.mk (below_step (by repeat (first | (with_reducible first | exact HB.out | apply below_alloc | apply pw_below_drewN | apply below_drew1) | exact HB.out)) hb); clear HB; have HO222 := n0_; have HB := n1_; clear n0_ n1_; clear hb ho20; have hcv21 := own_string (P := Tryd.prog) Tryd.underlying27 Tryd.underlying5 Tryd.underlying9 (Kd.own_of_R HO222.out)))
         go_roundg k1
         case measure => have := HK1.out; omega
         case rel => exact ⟨((strOfNums y220) ++ x6_1), (x7_1 / 16), (by first | rfl | (simp; done) | (simp [*]; done)), (by first | rfl | (simp; done) | (simp [*]; done)), H', ⟨by have := HK1.out; omega⟩, ⟨by repeat (first | (with_reducible first | exact HB.out | apply below_alloc | apply pw_below_drewN | apply below_drew1) | exact HB.out)⟩⟩
        ·rw [if_neg c18] at H
         exact absurd H (by simp)
       ·rw [if_neg c16] at H
        exact absurd H (by simp)
      ·rw [if_neg c15] at H
       exact absurd H (by simp)
     ·rw [if_neg c14] at H
      have c14b0 : (x6_1.toList == ([] : List UInt8)) = false := beq_eq_false_iff_ne.mpr c14
      have c14b1 : (x6_1.toList != ([] : List UInt8)) = true := bne_iff_ne.mpr c14
      replace H := Option.bind_eq_some_iff.mp H
      obtain ⟨t223, A220, H⟩ := H
      replace H : ((stoleref0_Decimal.f k1 (Go.bits .and .i64 a0 2097151)).bind fun t226 => (if 2 + t226.size ≤ 9223372036854775807 then (if 2 + t226.size + 1 ≤ 9223372036854775807 then ((refs_Decode.f (((⟨#[38, 35]⟩ : ByteArray) ++ t226) ++ (⟨#[59]⟩ : ByteArray))).bind fun t227 => (if 3 + x6_1.size ≤ 9223372036854775807 then (if 3 + x6_1.size + 1 ≤ 9223372036854775807 then ((refs_Decode.f (((⟨#[38, 35, 120]⟩ : ByteArray) ++ x6_1) ++ (⟨#[59]⟩ : ByteArray))).bind fun t228 => ((refs_Decode.f (((⟨#[38, 35, 88]⟩ : ByteArray) ++ x6_1) ++ (⟨#[59]⟩ : ByteArray))).bind fun t229 => (if t227.toList = (strOfNums t223).toList then (if t228.toList = (strOfNums t223).toList then (if t229.toList = (strOfNums t223).toList then ((stoleref0_Decimal.f k1 (Go.bits .and .i64 a0 2097151)).bind fun t230 => (if 2 + t230.size ≤ 9223372036854775807 then (if 2 + t230.size + 1 ≤ 9223372036854775807 then (if 2 + t230.size + 1 + 4 ≤ 9223372036854775807 then ((refs_Decode.f ((((⟨#[38, 35]⟩ : ByteArray) ++ t230) ++ (⟨#[59]⟩ : ByteArray)) ++ (⟨#[38, 108, 116, 59]⟩ : ByteArray))).bind fun t231 => (if (strOfNums t223).size + 1 ≤ 9223372036854775807 then (if t231.toList = ((strOfNums t223) ++ (⟨#[60]⟩ : ByteArray)).toList then ((refs_Decode.f ((⟨#[38, 35, 120]⟩ : ByteArray) ++ x6_1)).bind fun t232 => (if t232.toList = ((⟨#[38, 35, 120]⟩ : ByteArray) ++ x6_1).toList then ((refs_Decode.f (⟨#[38, 35, 59, 38, 35, 120, 59, 38, 59]⟩ : ByteArray)).bind fun t233 => (if t233.toList = ([38, 35, 59, 38, 35, 120, 59, 38, 59] : List UInt8) then (if a1.toList = ([] : List UInt8) then (some true) else ((refs_Encode.f a1).bind fun t234 => (if 1 + t234.size ≤ 9223372036854775807 then ((refs_Decode.f ((⟨#[60]⟩ : ByteArray) ++ t234)).bind fun t235 => ((stoleref1_Norm.f k1 a1).bind fun t236 => (if 1 + t236.size ≤ 9223372036854775807 then (some (t235.toList == ((⟨#[60]⟩ : ByteArray) ++ t236).toList)) else (none)))) else (none)))) else (some false))) else (some false))) else (some false)) else (none))) else (none)) else (none)) else (none))) else (some false)) else (some false)) else (some false)))) else (none)) else (none))) else (none)) else (none))) = some r := H
      have A22 := Aside0.mk A220
      clear A220
      replace H := Option.bind_eq_some_iff.mp H
      obtain ⟨t226, A230, H⟩ := H
      replace H : (if 2 + t226.size ≤ 9223372036854775807 then (if 2 + t226.size + 1 ≤ 9223372036854775807 then ((refs_Decode.f (((⟨#[38, 35]⟩ : ByteArray) ++ t226) ++ (⟨#[59]⟩ : ByteArray))).bind fun t227 => (if 3 + x6_1.size ≤ 9223372036854775807 then (if 3 + x6_1.size + 1 ≤ 9223372036854775807 then ((refs_Decode.f (((⟨#[38, 35, 120]⟩ : ByteArray) ++ x6_1) ++ (⟨#[59]⟩ : ByteArray))).bind fun t228 => ((refs_Decode.f (((⟨#[38, 35, 88]⟩ : ByteArray) ++ x6_1) ++ (⟨#[59]⟩ : ByteArray))).bind fun t229 => (if t227.toList = (strOfNums t223).toList then (if t228.toList = (strOfNums t223).toList then (if t229.toList = (strOfNums t223).toList then ((stoleref0_Decimal.f k1 (Go.bits .and .i64 a0 2097151)).bind fun t230 => (if 2 + t230.size ≤ 9223372036854775807 then (if 2 + t230.size + 1 ≤ 9223372036854775807 then (if 2 + t230.size + 1 + 4 ≤ 9223372036854775807 then ((refs_Decode.f ((((⟨#[38, 35]⟩ : ByteArray) ++ t230) ++ (⟨#[59]⟩ : ByteArray)) ++ (⟨#[38, 108, 116, 59]⟩ : ByteArray))).bind fun t231 => (if (strOfNums t223).size + 1 ≤ 9223372036854775807 then (if t231.toList = ((strOfNums t223) ++ (⟨#[60]⟩ : ByteArray)).toList then ((refs_Decode.f ((⟨#[38, 35, 120]⟩ : ByteArray) ++ x6_1)).bind fun t232 => (if t232.toList = ((⟨#[38, 35, 120]⟩ : ByteArray) ++ x6_1).toList then ((refs_Decode.f (⟨#[38, 35, 59, 38, 35, 120, 59, 38, 59]⟩ : ByteArray)).bind fun t233 => (if t233.toList = ([38, 35, 59, 38, 35, 120, 59, 38, 59] : List UInt8) then (if a1.toList = ([] : List UInt8) then (some true) else ((refs_Encode.f a1).bind fun t234 => (if 1 + t234.size ≤ 9223372036854775807 then ((refs_Decode.f ((⟨#[60]⟩ : ByteArray) ++ t234)).bind fun t235 => ((stoleref1_Norm.f k1 a1).bind fun t236 => (if 1 + t236.size ≤ 9223372036854775807 then (some (t235.toList == ((⟨#[60]⟩ : ByteArray) ++ t236).toList)) else (none)))) else (none)))) else (some false))) else (some false))) else (some false)) else (none))) else (none)) else (none)) else (none))) else (some false)) else (some false)) else (some false)))) else (none)) else (none))) else (none)) else (none)) = some r := H
      have A23 := Aside0.mk A230
      clear A230
      by_cases c24 : 2 + t226.size ≤ 9223372036854775807
      ·rw [if_pos c24] at H
       have c24b0 := eq_true c24
       have c24b1 : decide (2 + t226.size ≤ 9223372036854775807) = true := decide_eq_true c24
       try have c24b2 : (9223372036854775807 < 2 + t226.size) = False := eq_false (Nat.not_lt.2 c24)
       by_cases c25 : 2 + t226.size + 1 ≤ 9223372036854775807
       ·rw [if_pos c25] at H
        have c25b0 := eq_true c25
        have c25b1 : decide (2 + t226.size + 1 ≤ 9223372036854775807) = true := decide_eq_true c25
        try have c25b2 : (9223372036854775807 < 2 + t226.size + 1) = False := eq_false (Nat.not_lt.2 c25)
        replace H := Option.bind_eq_some_iff.mp H
        obtain ⟨t227, A260, H⟩ := H
        replace H : (if 3 + x6_1.size ≤ 9223372036854775807 then (if 3 + x6_1.size + 1 ≤ 9223372036854775807 then ((refs_Decode.f (((⟨#[38, 35, 120]⟩ : ByteArray) ++ x6_1) ++ (⟨#[59]⟩ : ByteArray))).bind fun t228 => ((refs_Decode.f (((⟨#[38, 35, 88]⟩ : ByteArray) ++ x6_1) ++ (⟨#[59]⟩ : ByteArray))).bind fun t229 => (if t227.toList = (strOfNums t223).toList then (if t228.toList = (strOfNums t223).toList then (if t229.toList = (strOfNums t223).toList then ((stoleref0_Decimal.f k1 (Go.bits .and .i64 a0 2097151)).bind fun t230 => (if 2 + t230.size ≤ 9223372036854775807 then (if 2 + t230.size + 1 ≤ 9223372036854775807 then (if 2 + t230.size + 1 + 4 ≤ 9223372036854775807 then ((refs_Decode.f ((((⟨#[38, 35]⟩ : ByteArray) ++ t230) ++ (⟨#[59]⟩ : ByteArray)) ++ (⟨#[38, 108, 116, 59]⟩ : ByteArray))).bind fun t231 => (if (strOfNums t223).size + 1 ≤ 9223372036854775807 then (if t231.toList = ((strOfNums t223) ++ (⟨#[60]⟩ : ByteArray)).toList then ((refs_Decode.f ((⟨#[38, 35, 120]⟩ : ByteArray) ++ x6_1)).bind fun t232 => (if t232.toList = ((⟨#[38, 35, 120]⟩ : ByteArray) ++ x6_1).toList then ((refs_Decode.f (⟨#[38, 35, 59, 38, 35, 120, 59, 38, 59]⟩ : ByteArray)).bind fun t233 => (if t233.toList = ([38, 35, 59, 38, 35, 120, 59, 38, 59] : List UInt8) then (if a1.toList = ([] : List UInt8) then (some true) else ((refs_Encode.f a1).bind fun t234 => (if 1 + t234.size ≤ 9223372036854775807 then ((refs_Decode.f ((⟨#[60]⟩ : ByteArray) ++ t234)).bind fun t235 => ((stoleref1_Norm.f k1 a1).bind fun t236 => (if 1 + t236.size ≤ 9223372036854775807 then (some (t235.toList == ((⟨#[60]⟩ : ByteArray) ++ t236).toList)) else (none)))) else (none)))) else (some false))) else (some false))) else (some false)) else (none))) else (none)) else (none)) else (none))) else (some false)) else (some false)) else (some false)))) else (none)) else (none)) = some r := H
        have A26 := Aside0.mk A260
        clear A260
        by_cases c27 : 3 + x6_1.size ≤ 9223372036854775807
        ·rw [if_pos c27] at H
         have c27b0 := eq_true c27
         have c27b1 : decide (3 + x6_1.size ≤ 9223372036854775807) = true := decide_eq_true c27
         try have c27b2 : (9223372036854775807 < 3 + x6_1.size) = False := eq_false (Nat.not_lt.2 c27)
         by_cases c28 : 3 + x6_1.size + 1 ≤ 9223372036854775807
         ·rw [if_pos c28] at H
          have c28b0 := eq_true c28
          have c28b1 : decide (3 + x6_1.size + 1 ≤ 9223372036854775807) = true := decide_eq_true c28
          try have c28b2 : (9223372036854775807 < 3 + x6_1.size + 1) = False := eq_false (Nat.not_lt.2 c28)
          replace H := Option.bind_eq_some_iff.mp H
          obtain ⟨t228, A290, H⟩ := H
          replace H : ((refs_Decode.f (((⟨#[38, 35, 88]⟩ : ByteArray) ++ x6_1) ++ (⟨#[59]⟩ : ByteArray))).bind fun t229 => (if t227.toList = (strOfNums t223).toList then (if t228.toList = (strOfNums t223).toList then (if t229.toList = (strOfNums t223).toList then ((stoleref0_Decimal.f k1 (Go.bits .and .i64 a0 2097151)).bind fun t230 => (if 2 + t230.size ≤ 9223372036854775807 then (if 2 + t230.size + 1 ≤ 9223372036854775807 then (if 2 + t230.size + 1 + 4 ≤ 9223372036854775807 then ((refs_Decode.f ((((⟨#[38, 35]⟩ : ByteArray) ++ t230) ++ (⟨#[59]⟩ : ByteArray)) ++ (⟨#[38, 108, 116, 59]⟩ : ByteArray))).bind fun t231 => (if (strOfNums t223).size + 1 ≤ 9223372036854775807 then (if t231.toList = ((strOfNums t223) ++ (⟨#[60]⟩ : ByteArray)).toList then ((refs_Decode.f ((⟨#[38, 35, 120]⟩ : ByteArray) ++ x6_1)).bind fun t232 => (if t232.toList = ((⟨#[38, 35, 120]⟩ : ByteArray) ++ x6_1).toList then ((refs_Decode.f (⟨#[38, 35, 59, 38, 35, 120, 59, 38, 59]⟩ : ByteArray)).bind fun t233 => (if t233.toList = ([38, 35, 59, 38, 35, 120, 59, 38, 59] : List UInt8) then (if a1.toList = ([] : List UInt8) then (some true) else ((refs_Encode.f a1).bind fun t234 => (if 1 + t234.size ≤ 9223372036854775807 then ((refs_Decode.f ((⟨#[60]⟩ : ByteArray) ++ t234)).bind fun t235 => ((stoleref1_Norm.f k1 a1).bind fun t236 => (if 1 + t236.size ≤ 9223372036854775807 then (some (t235.toList == ((⟨#[60]⟩ : ByteArray) ++ t236).toList)) else (none)))) else (none)))) else (some false))) else (some false))) else (some false)) else (none))) else (none)) else (none)) else (none))) else (some false)) else (some false)) else (some false))) = some r := H
          have A29 := Aside0.mk A290
          clear A290
          replace H := Option.bind_eq_some_iff.mp H
          obtain ⟨t229, A300, H⟩ := H
          replace H : (if t227.toList = (strOfNums t223).toList then (if t228.toList = (strOfNums t223).toList then (if t229.toList = (strOfNums t223).toList then ((stoleref0_Decimal.f k1 (Go.bits .and .i64 a0 2097151)).bind fun t230 => (if 2 + t230.size ≤ 9223372036854775807 then (if 2 + t230.size + 1 ≤ 9223372036854775807 then (if 2 + t230.size + 1 + 4 ≤ 9223372036854775807 then ((refs_Decode.f ((((⟨#[38, 35]⟩ : ByteArray) ++ t230) ++ (⟨#[59]⟩ : ByteArray)) ++ (⟨#[38, 108, 116, 59]⟩ : ByteArray))).bind fun t231 => (if (strOfNums t223).size + 1 ≤ 9223372036854775807 then (if t231.toList = ((strOfNums t223) ++ (⟨#[60]⟩ : ByteArray)).toList then ((refs_Decode.f ((⟨#[38, 35, 120]⟩ : ByteArray) ++ x6_1)).bind fun t232 => (if t232.toList = ((⟨#[38, 35, 120]⟩ : ByteArray) ++ x6_1).toList then ((refs_Decode.f (⟨#[38, 35, 59, 38, 35, 120, 59, 38, 59]⟩ : ByteArray)).bind fun t233 => (if t233.toList = ([38, 35, 59, 38, 35, 120, 59, 38, 59] : List UInt8) then (if a1.toList = ([] : List UInt8) then (some true) else ((refs_Encode.f a1).bind fun t234 => (if 1 + t234.size ≤ 9223372036854775807 then ((refs_Decode.f ((⟨#[60]⟩ : ByteArray) ++ t234)).bind fun t235 => ((stoleref1_Norm.f k1 a1).bind fun t236 => (if 1 + t236.size ≤ 9223372036854775807 then (some (t235.toList == ((⟨#[60]⟩ : ByteArray) ++ t236).toList)) else (none)))) else (none)))) else (some false))) else (some false))) else (some false)) else (none))) else (none)) else (none)) else (none))) else (some false)) else (some false)) else (some false)) = some r := H
          have A30 := Aside0.mk A300
          clear A300
          by_cases c31 : t227.toList = (strOfNums t223).toList
          ·rw [if_pos c31] at H
           have c31b0 : (t227.toList == (strOfNums t223).toList) = true := beq_iff_eq.mpr c31
           have c31b1 : (t227.toList != (strOfNums t223).toList) = false := bne_eq_false_iff_eq.mpr c31
           clear c31
           by_cases c32 : t228.toList = (strOfNums t223).toList
           ·rw [if_pos c32] at H
            have c32b0 : (t228.toList == (strOfNums t223).toList) = true := beq_iff_eq.mpr c32
            have c32b1 : (t228.toList != (strOfNums t223).toList) = false := bne_eq_false_iff_eq.mpr c32
            clear c32
            by_cases c33 : t229.toList = (strOfNums t223).toList
            ·rw [if_pos c33] at H
             have c33b0 : (t229.toList == (strOfNums t223).toList) = true := beq_iff_eq.mpr c33
             have c33b1 : (t229.toList != (strOfNums t223).toList) = false := bne_eq_false_iff_eq.mpr c33
             clear c33
             replace H := Option.bind_eq_some_iff.mp H
             obtain ⟨t230, A340, H⟩ := H
             replace H : (if 2 + t230.size ≤ 9223372036854775807 then (if 2 + t230.size + 1 ≤ 9223372036854775807 then (if 2 + t230.size + 1 + 4 ≤ 9223372036854775807 then ((refs_Decode.f ((((⟨#[38, 35]⟩ : ByteArray) ++ t230) ++ (⟨#[59]⟩ : ByteArray)) ++ (⟨#[38, 108, 116, 59]⟩ : ByteArray))).bind fun t231 => (if (strOfNums t223).size + 1 ≤ 9223372036854775807 then (if t231.toList = ((strOfNums t223) ++ (⟨#[60]⟩ : ByteArray)).toList then ((refs_Decode.f ((⟨#[38, 35, 120]⟩ : ByteArray) ++ x6_1)).bind fun t232 => (if t232.toList = ((⟨#[38, 35, 120]⟩ : ByteArray) ++ x6_1).toList then ((refs_Decode.f (⟨#[38, 35, 59, 38, 35, 120, 59, 38, 59]⟩ : ByteArray)).bind fun t233 => (if t233.toList = ([38, 35, 59, 38, 35, 120, 59, 38, 59] : List UInt8) then (if a1.toList = ([] : List UInt8) then (some true) else ((refs_Encode.f a1).bind fun t234 => (if 1 + t234.size ≤ 9223372036854775807 then ((refs_Decode.f ((⟨#[60]⟩ : ByteArray) ++ t234)).bind fun t235 => ((stoleref1_Norm.f k1 a1).bind fun t236 => (if 1 + t236.size ≤ 9223372036854775807 then (some (t235.toList == ((⟨#[60]⟩ : ByteArray) ++ t236).toList)) else (none)))) else (none)))) else (some false))) else (some false))) else (some false)) else (none))) else (none)) else (none)) else (none)) = some r := H
             have A34 := Aside0.mk A340
             clear A340
             by_cases c35 : 2 + t230.size ≤ 9223372036854775807
             ·rw [if_pos c35] at H
              have c35b0 := eq_true c35
              have c35b1 : decide (2 + t230.size ≤ 9223372036854775807) = true := decide_eq_true c35
              try have c35b2 : (9223372036854775807 < 2 + t230.size) = False := eq_false (Nat.not_lt.2 c35)
              by_cases c36 : 2 + t230.size + 1 ≤ 9223372036854775807
              ·rw [if_pos c36] at H
               have c36b0 := eq_true c36
               have c36b1 : decide (2 + t230.size + 1 ≤ 9223372036854775807) = true := decide_eq_true c36
               try have c36b2 : (9223372036854775807 < 2 + t230.size + 1) = False := eq_false (Nat.not_lt.2 c36)
               by_cases c37 : 2 + t230.size + 1 + 4 ≤ 9223372036854775807
               ·rw [if_pos c37] at H
                have c37b0 := eq_true c37
                have c37b1 : decide (2 + t230.size + 1 + 4 ≤ 9223372036854775807) = true := decide_eq_true c37
                try have c37b2 : (9223372036854775807 < 2 + t230.size + 1 + 4) = False := eq_false (Nat.not_lt.2 c37)
                replace H := Option.bind_eq_some_iff.mp H
                obtain ⟨t231, A380, H⟩ := H
                replace H : (if (strOfNums t223).size + 1 ≤ 9223372036854775807 then (if t231.toList = ((strOfNums t223) ++ (⟨#[60]⟩ : ByteArray)).toList then ((refs_Decode.f ((⟨#[38, 35, 120]⟩ : ByteArray) ++ x6_1)).bind fun t232 => (if t232.toList = ((⟨#[38, 35, 120]⟩ : ByteArray) ++ x6_1).toList then ((refs_Decode.f (⟨#[38, 35, 59, 38, 35, 120, 59, 38, 59]⟩ : ByteArray)).bind fun t233 => (if t233.toList = ([38, 35, 59, 38, 35, 120, 59, 38, 59] : List UInt8) then (if a1.toList = ([] : List UInt8) then (some true) else ((refs_Encode.f a1).bind fun t234 => (if 1 + t234.size ≤ 9223372036854775807 then ((refs_Decode.f ((⟨#[60]⟩ : ByteArray) ++ t234)).bind fun t235 => ((stoleref1_Norm.f k1 a1).bind fun t236 => (if 1 + t236.size ≤ 9223372036854775807 then (some (t235.toList == ((⟨#[60]⟩ : ByteArray) ++ t236).toList)) else (none)))) else (none)))) else (some false))) else (some false))) else (some false)) else (none)) = some r := H
                have A38 := Aside0.mk A380
                clear A380
                by_cases c39 : (strOfNums t223).size + 1 ≤ 9223372036854775807
                ·rw [if_pos c39] at H
                 have c39b0 := eq_true c39
                 have c39b1 : decide ((strOfNums t223).size + 1 ≤ 9223372036854775807) = true := decide_eq_true c39
                 try have c39b2 : (9223372036854775807 < (strOfNums t223).size + 1) = False := eq_false (Nat.not_lt.2 c39)
                 by_cases c40 : t231.toList = ((strOfNums t223) ++ (⟨#[60]⟩ : ByteArray)).toList
                 ·rw [if_pos c40] at H
                  have c40b0 : (t231.toList == ((strOfNums t223) ++ (⟨#[60]⟩ : ByteArray)).toList) = true := beq_iff_eq.mpr c40
                  have c40b1 : (t231.toList != ((strOfNums t223) ++ (⟨#[60]⟩ : ByteArray)).toList) = false := bne_eq_false_iff_eq.mpr c40
                  clear c40
                  replace H := Option.bind_eq_some_iff.mp H
                  obtain ⟨t232, A410, H⟩ := H
                  replace H : (if t232.toList = ((⟨#[38, 35, 120]⟩ : ByteArray) ++ x6_1).toList then ((refs_Decode.f (⟨#[38, 35, 59, 38, 35, 120, 59, 38, 59]⟩ : ByteArray)).bind fun t233 => (if t233.toList = ([38, 35, 59, 38, 35, 120, 59, 38, 59] : List UInt8) then (if a1.toList = ([] : List UInt8) then (some true) else ((refs_Encode.f a1).bind fun t234 => (if 1 + t234.size ≤ 9223372036854775807 then ((refs_Decode.f ((⟨#[60]⟩ : ByteArray) ++ t234)).bind fun t235 => ((stoleref1_Norm.f k1 a1).bind fun t236 => (if 1 + t236.size ≤ 9223372036854775807 then (some (t235.toList == ((⟨#[60]⟩ : ByteArray) ++ t236).toList)) else (none)))) else (none)))) else (some false))) else (some false)) = some r := H
                  have A41 := Aside0.mk A410
                  clear A410
                  by_cases c42 : t232.toList = ((⟨#[38, 35, 120]⟩ : ByteArray) ++ x6_1).toList
                  ·rw [if_pos c42] at H
                   have c42b0 : (t232.toList == ((⟨#[38, 35, 120]⟩ : ByteArray) ++ x6_1).toList) = true := beq_iff_eq.mpr c42
                   have c42b1 : (t232.toList != ((⟨#[38, 35, 120]⟩ : ByteArray) ++ x6_1).toList) = false := bne_eq_false_iff_eq.mpr c42
                   clear c42
                   replace H := Option.bind_eq_some_iff.mp H
                   obtain ⟨t233, A430, H⟩ := H
                   replace H : (if t233.toList = ([38, 35, 59, 38, 35, 120, 59, 38, 59] : List UInt8) then (if a1.toList = ([] : List UInt8) then (some true) else ((refs_Encode.f a1).bind fun t234 => (if 1 + t234.size ≤ 9223372036854775807 then ((refs_Decode.f ((⟨#[60]⟩ : ByteArray) ++ t234)).bind fun t235 => ((stoleref1_Norm.f k1 a1).bind fun t236 => (if 1 + t236.size ≤ 9223372036854775807 then (some (t235.toList == ((⟨#[60]⟩ : ByteArray) ++ t236).toList)) else (none)))) else (none)))) else (some false)) = some r := H
                   have A43 := Aside0.mk A430
                   clear A430
                   by_cases c44 : t233.toList = ([38, 35, 59, 38, 35, 120, 59, 38, 59] : List UInt8)
                   ·rw [if_pos c44] at H
                    have c44b0 : (t233.toList == ([38, 35, 59, 38, 35, 120, 59, 38, 59] : List UInt8)) = true := beq_iff_eq.mpr c44
                    have c44b1 : (t233.toList != ([38, 35, 59, 38, 35, 120, 59, 38, 59] : List UInt8)) = false := bne_eq_false_iff_eq.mpr c44
                    clear c44
                    by_cases c45 : a1.toList = ([] : List UInt8)
                    ·rw [if_pos c45] at H
                     have c45b0 : (a1.toList == ([] : List UInt8)) = true := beq_iff_eq.mpr c45
                     have c45b1 : (a1.toList != ([] : List UInt8)) = false := bne_eq_false_iff_eq.mpr c45
                     clear c45
                     obtain rfl := Option.some.inj H
                     go_wp2_with (first | ((with_reducible refine gate_callee (f := 15) rfl ?_); refine goesL_ (some 33) rfl rfl Tryd.func15 (by kernel_rfl) rfl #[.int .i64 (Go.bits .and .i64 a0 2097151)] rfl (by (try simp only [List.map_toArray, List.map_cons, List.map_nil]); first | done | rfl | (simp only [List.length_drop, List.length_take]; rfl)) ?_; (with_reducible refine (stoleref1_Rune.calls k1 (Go.bits .and .i64 a0 2097151) t223 _ A22.out).mono ?_); rintro e w46 ⟨v224, rfl, ho0, hb⟩; refine ⟨_, rfl, ?_⟩; have n0_ := Aside0.mk (Kd.R_lower ho0 (below_size (by repeat (first | (with_reducible first | exact HB.out | apply below_alloc | apply pw_below_drewN | apply below_drew1) | exact HB.out)))); have n1_ := Aside0.mk (below_step (by repeat (first | (with_reducible first | exact HB.out | apply below_alloc | apply pw_below_drewN | apply below_drew1) | exact HB.out)) hb); clear HB; have HO225 := n0_; have HB := n1_; clear n0_ n1_; (try clear hb); (try clear hb2); (try clear hk); (try clear hi); (try clear ho0); have hcv47 := own_string (P := Tryd.prog) Tryd.underlying27 Tryd.underlying5 Tryd.underlying9 (Kd.own_of_R HO225.out)) | ((with_reducible refine gate_callee (f := 16) rfl ?_); refine goesL_ (some 36) rfl rfl Tryd.func16 (by kernel_rfl) rfl #[.int .i64 (Go.bits .and .i64 a0 2097151)] rfl (by (try simp only [List.map_toArray, List.map_cons, List.map_nil]); first | done | rfl | (simp only [List.length_drop, List.length_take]; rfl)) ?_; (with_reducible refine (stoleref0_Decimal.calls k1 (Go.bits .and .i64 a0 2097151) t226 _ A23.out).mono ?_); rintro e w48 ⟨rfl, hb⟩; refine ⟨_, rfl, ?_⟩; have n0_ := Aside0.mk (Kd.R_below (by (with_reducible repeat (first | apply Kd.R_alloc | apply Kd.R_drewN | apply Kd.R_drew)); exact HO225.out) hb); have n1_ := Aside0.mk (below_step (by repeat (first | (with_reducible first | exact HB.out | apply below_alloc | apply pw_below_drewN | apply below_drew1) | exact HB.out)) hb); clear HO225; clear HB; have HO225 := n0_; have HB := n1_; clear n0_ n1_; (try clear hb); (try clear hb2); (try clear hk); (try clear hi)) | ((with_reducible refine gate_callee (f := 11) rfl ?_); refine goesL_ (some 39) rfl rfl Tryd.func11 (by kernel_rfl) rfl #[.string (((⟨#[38, 35]⟩ : ByteArray) ++ t226) ++ (⟨#[59]⟩ : ByteArray))] rfl (by (try simp only [List.map_toArray, List.map_cons, List.map_nil]); first | done | rfl | (simp only [List.length_drop, List.length_take]; rfl)) ?_; (with_reducible refine (refs_Decode.calls (((⟨#[38, 35]⟩ : ByteArray) ++ t226) ++ (⟨#[59]⟩ : ByteArray)) t227 _ A26.out).mono ?_); rintro e w49 ⟨rfl, hb⟩; refine ⟨_, rfl, ?_⟩; have n0_ := Aside0.mk (Kd.R_below (by (with_reducible repeat (first | apply Kd.R_alloc | apply Kd.R_drewN | apply Kd.R_drew)); exact HO225.out) hb); have n1_ := Aside0.mk (below_step (by repeat (first | (with_reducible first | exact HB.out | apply below_alloc | apply pw_below_drewN | apply below_drew1) | exact HB.out)) hb); clear HO225; clear HB; have HO225 := n0_; have HB := n1_; clear n0_ n1_; (try clear hb); (try clear hb2); (try clear hk); (try clear hi)) | ((with_reducible refine gate_callee (f := 11) rfl ?_); refine goesL_ (some 43) rfl rfl Tryd.func11 (by kernel_rfl) rfl #[.string (((⟨#[38, 35, 120]⟩ : ByteArray) ++ x6_1) ++ (⟨#[59]⟩ : ByteArray))] rfl (by (try simp only [List.map_toArray, List.map_cons, List.map_nil]); first | done | rfl | (simp only [List.length_drop, List.length_take]; rfl)) ?_; (with_reducible refine (refs_Decode.calls (((⟨#[38, 35, 120]⟩ : ByteArray) ++ x6_1) ++ (⟨#[59]⟩ : ByteArray)) t228 _ A29.out).mono ?_); rintro e w50 ⟨rfl, hb⟩; refine ⟨_, rfl, ?_⟩; have n0_ := Aside0.mk (Kd.R_below (by (with_reducible repeat (first | apply Kd.R_alloc | apply Kd.R_drewN | apply Kd.R_drew)); exact HO225.out) hb); have n1_ := Aside0.mk (below_step (by repeat (first | (with_reducible first | exact HB.out | apply below_alloc | apply pw_below_drewN | apply below_drew1) | exact HB.out)) hb); clear HO225; clear HB; have HO225 := n0_; have HB := n1_; clear n0_ n1_; (try clear hb); (try clear hb2); (try clear hk); (try clear hi)) | ((with_reducible refine gate_callee (f := 11) rfl ?_); refine goesL_ (some 47) rfl rfl Tryd.func11 (by kernel_rfl) rfl #[.string (((⟨#[38, 35, 88]⟩ : ByteArray) ++ x6_1) ++ (⟨#[59]⟩ : ByteArray))] rfl (by (try simp only [List.map_toArray, List.map_cons, List.map_nil]); first | done | rfl | (simp only [List.length_drop, List.length_take]; rfl)) ?_; (with_reducible refine (refs_Decode.calls (((⟨#[38, 35, 88]⟩ : ByteArray) ++ x6_1) ++ (⟨#[59]⟩ : ByteArray)) t229 _ A30.out).mono ?_); rintro e w51 ⟨rfl, hb⟩; refine ⟨_, rfl, ?_⟩; have n0_ := Aside0.mk (Kd.R_below (by (with_reducible repeat (first | apply Kd.R_alloc | apply Kd.R_drewN | apply Kd.R_drew)); exact HO225.out) hb); have n1_ := Aside0.mk (below_step (by repeat (first | (with_reducible first | exact HB.out | apply below_alloc | apply pw_below_drewN | apply below_drew1) | exact HB.out)) hb); clear HO225; clear HB; have HO225 := n0_; have HB := n1_; clear n0_ n1_; (try clear hb); (try clear hb2); (try clear hk); (try clear hi)) | (go_at_call 16; (with_reducible refine (stoleref0_Decimal.calls k1 (Go.bits .and .i64 a0 2097151) t230 _ A34.out).mono ?_); rintro e w52 ⟨rfl, hb⟩; have n0_ := Aside0.mk (Kd.R_below (by (with_reducible repeat (first | apply Kd.R_alloc | apply Kd.R_drewN | apply Kd.R_drew)); exact HO225.out) hb); have n1_ := Aside0.mk (below_step (by repeat (first | (with_reducible first | exact HB.out | apply below_alloc | apply pw_below_drewN | apply below_drew1) | exact HB.out)) hb); clear HO225; clear HB; have HO225 := n0_; have HB := n1_; clear n0_ n1_; (try clear hb); (try clear hb2); (try clear hk); (try clear hi)) | (go_at_call 11; (with_reducible refine (refs_Decode.calls ((((⟨#[38, 35]⟩ : ByteArray) ++ t230) ++ (⟨#[59]⟩ : ByteArray)) ++ (⟨#[38, 108, 116, 59]⟩ : ByteArray)) t231 _ A38.out).mono ?_); rintro e w53 ⟨rfl, hb⟩; have n0_ := Aside0.mk (Kd.R_below (by (with_reducible repeat (first | apply Kd.R_alloc | apply Kd.R_drewN | apply Kd.R_drew)); exact HO225.out) hb); have n1_ := Aside0.mk (below_step (by repeat (first | (with_reducible first | exact HB.out | apply below_alloc | apply pw_below_drewN | apply below_drew1) | exact HB.out)) hb); clear HO225; clear HB; have HO225 := n0_; have HB := n1_; clear n0_ n1_; (try clear hb); (try clear hb2); (try clear hk); (try clear hi)) | (go_at_call 11; (with_reducible refine (refs_Decode.calls ((⟨#[38, 35, 120]⟩ : ByteArray) ++ x6_1) t232 _ A41.out).mono ?_); rintro e w54 ⟨rfl, hb⟩; have n0_ := Aside0.mk (Kd.R_below (by (with_reducible repeat (first | apply Kd.R_alloc | apply Kd.R_drewN | apply Kd.R_drew)); exact HO225.out) hb); have n1_ := Aside0.mk (below_step (by repeat (first | (with_reducible first | exact HB.out | apply below_alloc | apply pw_below_drewN | apply below_drew1) | exact HB.out)) hb); clear HO225; clear HB; have HO225 := n0_; have HB := n1_; clear n0_ n1_; (try clear hb); (try clear hb2); (try clear hk); (try clear hi)) | (go_at_call 11; (with_reducible refine (refs_Decode.calls (⟨#[38, 35, 59, 38, 35, 120, 59, 38, 59]⟩ : ByteArray) t233 _ A43.out).mono ?_); rintro e w55 ⟨rfl, hb⟩; have n0_ := Aside0.mk (Kd.R_below (by (with_reducible repeat (first | apply Kd.R_alloc | apply Kd.R_drewN | apply Kd.R_drew)); exact HO225.out) hb); have n1_ := Aside0.mk (below_step (by repeat (first | (with_reducible first | exact HB.out | apply below_alloc | apply pw_below_drewN | apply below_drew1) | exact HB.out)) hb); clear HO225; clear HB; have HO225 := n0_; have HB := n1_; clear n0_ n1_; (try clear hb); (try clear hb2); (try clear hk); (try clear hi)))
                     go_ret
                     exact ⟨by first | rfl | (simp [errW_none, errW_some] <;> rfl) | (simp [*, errW_none, errW_some] <;> rfl) | (rw [ne_nil_not]; rfl), by repeat (first | (with_reducible first | exact HB.out | apply below_alloc | apply pw_below_drewN | apply below_drew1) | exact HB.out)⟩
                    ·rw [if_neg c45] at H
                     have c45b0 : (a1.toList == ([] : List UInt8)) = false := beq_eq_false_iff_ne.mpr c45
                     have c45b1 : (a1.toList != ([] : List UInt8)) = true := bne_iff_ne.mpr c45
                     replace H := Option.bind_eq_some_iff.mp H
                     obtain ⟨t234, A560, H⟩ := H
                     replace H : (if 1 + t234.size ≤ 9223372036854775807 then ((refs_Decode.f ((⟨#[60]⟩ : ByteArray) ++ t234)).bind fun t235 => ((stoleref1_Norm.f k1 a1).bind fun t236 => (if 1 + t236.size ≤ 9223372036854775807 then (some (t235.toList == ((⟨#[60]⟩ : ByteArray) ++ t236).toList)) else (none)))) else (none)) = some r := H
                     have A56 := Aside0.mk A560
                     clear A560
                     by_cases c57 : 1 + t234.size ≤ 9223372036854775807
                     ·rw [if_pos c57] at H
                      have c57b0 := eq_true c57
                      have c57b1 : decide (1 + t234.size ≤ 9223372036854775807) = true := decide_eq_true c57
                      try have c57b2 : (9223372036854775807 < 1 + t234.size) = False := eq_false (Nat.not_lt.2 c57)
                      replace H := Option.bind_eq_some_iff.mp H
                      obtain ⟨t235, A580, H⟩ := H
                      replace H : ((stoleref1_Norm.f k1 a1).bind fun t236 => (if 1 + t236.size ≤ 9223372036854775807 then (some (t235.toList == ((⟨#[60]⟩ : ByteArray) ++ t236).toList)) else (none))) = some r := H
                      have A58 := Aside0.mk A580
                      clear A580
                      replace H := Option.bind_eq_some_iff.mp H
                      obtain ⟨t236, A590, H⟩ := H
                      replace H : (if 1 + t236.size ≤ 9223372036854775807 then (some (t235.toList == ((⟨#[60]⟩ : ByteArray) ++ t236).toList)) else (none)) = some r := H
                      have A59 := Aside0.mk A590
                      clear A590
                      by_cases c60 : 1 + t236.size ≤ 9223372036854775807
                      ·rw [if_pos c60] at H
                       have c60b0 := eq_true c60
                       have c60b1 : decide (1 + t236.size ≤ 9223372036854775807) = true := decide_eq_true c60
                       try have c60b2 : (9223372036854775807 < 1 + t236.size) = False := eq_false (Nat.not_lt.2 c60)
                       obtain rfl := Option.some.inj H
                       go_wp2_with (first | ((with_reducible refine gate_callee (f := 15) rfl ?_); refine goesL_ (some 33) rfl rfl Tryd.func15 (by kernel_rfl) rfl #[.int .i64 (Go.bits .and .i64 a0 2097151)] rfl (by (try simp only [List.map_toArray, List.map_cons, List.map_nil]); first | done | rfl | (simp only [List.length_drop, List.length_take]; rfl)) ?_; (with_reducible refine (stoleref1_Rune.calls k1 (Go.bits .and .i64 a0 2097151) t223 _ A22.out).mono ?_); rintro e w61 ⟨v224, rfl, ho0, hb⟩; refine ⟨_, rfl, ?_⟩; have n0_ := Aside0.mk (Kd.R_lower ho0 (below_size (by repeat (first | (with_reducible first | exact HB.out | apply below_alloc | apply pw_below_drewN | apply below_drew1) | exact HB.out)))); have n1_ := Aside0.mk (below_step (by repeat (first | (with_reducible first | exact HB.out | apply below_alloc | apply pw_below_drewN | apply below_drew1) | exact HB.out)) hb); clear HB; have HO225 := n0_; have HB := n1_; clear n0_ n1_; (try clear hb); (try clear hb2); (try clear hk); (try clear hi); (try clear ho0); have hcv62 := own_string (P := Tryd.prog) Tryd.underlying27 Tryd.underlying5 Tryd.underlying9 (Kd.own_of_R HO225.out)) | ((with_reducible refine gate_callee (f := 16) rfl ?_); refine goesL_ (some 36) rfl rfl Tryd.func16 (by kernel_rfl) rfl #[.int .i64 (Go.bits .and .i64 a0 2097151)] rfl (by (try simp only [List.map_toArray, List.map_cons, List.map_nil]); first | done | rfl | (simp only [List.length_drop, List.length_take]; rfl)) ?_; (with_reducible refine (stoleref0_Decimal.calls k1 (Go.bits .and .i64 a0 2097151) t226 _ A23.out).mono ?_); rintro e w63 ⟨rfl, hb⟩; refine ⟨_, rfl, ?_⟩; have n0_ := Aside0.mk (Kd.R_below (by (with_reducible repeat (first | apply Kd.R_alloc | apply Kd.R_drewN | apply Kd.R_drew)); exact HO225.out) hb); have n1_ := Aside0.mk (below_step (by repeat (first | (with_reducible first | exact HB.out | apply below_alloc | apply pw_below_drewN | apply below_drew1) | exact HB.out)) hb); clear HO225; clear HB; have HO225 := n0_; have HB := n1_; clear n0_ n1_; (try clear hb); (try clear hb2); (try clear hk); (try clear hi)) | ((with_reducible refine gate_callee (f := 11) rfl ?_); refine goesL_ (some 39) rfl rfl Tryd.func11 (by kernel_rfl) rfl #[.string (((⟨#[38, 35]⟩ : ByteArray) ++ t226) ++ (⟨#[59]⟩ : ByteArray))] rfl (by (try simp only [List.map_toArray, List.map_cons, List.map_nil]); first | done | rfl | (simp only [List.length_drop, List.length_take]; rfl)) ?_; (with_reducible refine (refs_Decode.calls (((⟨#[38, 35]⟩ : ByteArray) ++ t226) ++ (⟨#[59]⟩ : ByteArray)) t227 _ A26.out).mono ?_); rintro e w64 ⟨rfl, hb⟩; refine ⟨_, rfl, ?_⟩; have n0_ := Aside0.mk (Kd.R_below (by (with_reducible repeat (first | apply Kd.R_alloc | apply Kd.R_drewN | apply Kd.R_drew)); exact HO225.out) hb); have n1_ := Aside0.mk (below_step (by repeat (first | (with_reducible first | exact HB.out | apply below_alloc | apply pw_below_drewN | apply below_drew1) | exact HB.out)) hb); clear HO225; clear HB; have HO225 := n0_; have HB := n1_; clear n0_ n1_; (try clear hb); (try clear hb2); (try clear hk); (try clear hi)) | ((with_reducible refine gate_callee (f := 11) rfl ?_); refine goesL_ (some 43) rfl rfl Tryd.func11 (by kernel_rfl) rfl #[.string (((⟨#[38, 35, 120]⟩ : ByteArray) ++ x6_1) ++ (⟨#[59]⟩ : ByteArray))] rfl (by (try simp only [List.map_toArray, List.map_cons, List.map_nil]); first | done | rfl | (simp only [List.length_drop, List.length_take]; rfl)) ?_; (with_reducible refine (refs_Decode.calls (((⟨#[38, 35, 120]⟩ : ByteArray) ++ x6_1) ++ (⟨#[59]⟩ : ByteArray)) t228 _ A29.out).mono ?_); rintro e w65 ⟨rfl, hb⟩; refine ⟨_, rfl, ?_⟩; have n0_ := Aside0.mk (Kd.R_below (by (with_reducible repeat (first | apply Kd.R_alloc | apply Kd.R_drewN | apply Kd.R_drew)); exact HO225.out) hb); have n1_ := Aside0.mk (below_step (by repeat (first | (with_reducible first | exact HB.out | apply below_alloc | apply pw_below_drewN | apply below_drew1) | exact HB.out)) hb); clear HO225; clear HB; have HO225 := n0_; have HB := n1_; clear n0_ n1_; (try clear hb); (try clear hb2); (try clear hk); (try clear hi)) | ((with_reducible refine gate_callee (f := 11) rfl ?_); refine goesL_ (some 47) rfl rfl Tryd.func11 (by kernel_rfl) rfl #[.string (((⟨#[38, 35, 88]⟩ : ByteArray) ++ x6_1) ++ (⟨#[59]⟩ : ByteArray))] rfl (by (try simp only [List.map_toArray, List.map_cons, List.map_nil]); first | done | rfl | (simp only [List.length_drop, List.length_take]; rfl)) ?_; (with_reducible refine (refs_Decode.calls (((⟨#[38, 35, 88]⟩ : ByteArray) ++ x6_1) ++ (⟨#[59]⟩ : ByteArray)) t229 _ A30.out).mono ?_); rintro e w66 ⟨rfl, hb⟩; refine ⟨_, rfl, ?_⟩; have n0_ := Aside0.mk (Kd.R_below (by (with_reducible repeat (first | apply Kd.R_alloc | apply Kd.R_drewN | apply Kd.R_drew)); exact HO225.out) hb); have n1_ := Aside0.mk (below_step (by repeat (first | (with_reducible first | exact HB.out | apply below_alloc | apply pw_below_drewN | apply below_drew1) | exact HB.out)) hb); clear HO225; clear HB; have HO225 := n0_; have HB := n1_; clear n0_ n1_; (try clear hb); (try clear hb2); (try clear hk); (try clear hi)) | (go_at_call 16; (with_reducible refine (stoleref0_Decimal.calls k1 (Go.bits .and .i64 a0 2097151) t230 _ A34.out).mono ?_); rintro e w67 ⟨rfl, hb⟩; have n0_ := Aside0.mk (Kd.R_below (by (with_reducible repeat (first | apply Kd.R_alloc | apply Kd.R_drewN | apply Kd.R_drew)); exact HO225.out) hb); have n1_ := Aside0.mk (below_step (by repeat (first | (with_reducible first | exact HB.out | apply below_alloc | apply pw_below_drewN | apply below_drew1) | exact HB.out)) hb); clear HO225; clear HB; have HO225 := n0_; have HB := n1_; clear n0_ n1_; (try clear hb); (try clear hb2); (try clear hk); (try clear hi)) | (go_at_call 11; (with_reducible refine (refs_Decode.calls ((((⟨#[38, 35]⟩ : ByteArray) ++ t230) ++ (⟨#[59]⟩ : ByteArray)) ++ (⟨#[38, 108, 116, 59]⟩ : ByteArray)) t231 _ A38.out).mono ?_); rintro e w68 ⟨rfl, hb⟩; have n0_ := Aside0.mk (Kd.R_below (by (with_reducible repeat (first | apply Kd.R_alloc | apply Kd.R_drewN | apply Kd.R_drew)); exact HO225.out) hb); have n1_ := Aside0.mk (below_step (by repeat (first | (with_reducible first | exact HB.out | apply below_alloc | apply pw_below_drewN | apply below_drew1) | exact HB.out)) hb); clear HO225; clear HB; have HO225 := n0_; have HB := n1_; clear n0_ n1_; (try clear hb); (try clear hb2); (try clear hk); (try clear hi)) | (go_at_call 11; (with_reducible refine (refs_Decode.calls ((⟨#[38, 35, 120]⟩ : ByteArray) ++ x6_1) t232 _ A41.out).mono ?_); rintro e w69 ⟨rfl, hb⟩; have n0_ := Aside0.mk (Kd.R_below (by (with_reducible repeat (first | apply Kd.R_alloc | apply Kd.R_drewN | apply Kd.R_drew)); exact HO225.out) hb); have n1_ := Aside0.mk (below_step (by repeat (first | (with_reducible first | exact HB.out | apply below_alloc | apply pw_below_drewN | apply below_drew1) | exact HB.out)) hb); clear HO225; clear HB; have HO225 := n0_; have HB := n1_; clear n0_ n1_; (try clear hb); (try clear hb2); (try clear hk); (try clear hi)) | (go_at_call 11; (with_reducible refine (refs_Decode.calls (⟨#[38, 35, 59, 38, 35, 120, 59, 38, 59]⟩ : ByteArray) t233 _ A43.out).mono ?_); rintro e w70 ⟨rfl, hb⟩; have n0_ := Aside0.mk (Kd.R_below (by (with_reducible repeat (first | apply Kd.R_alloc | apply Kd.R_drewN | apply Kd.R_drew)); exact HO225.out) hb); have n1_ := Aside0.mk (below_step (by repeat (first | (with_reducible first | exact HB.out | apply below_alloc | apply pw_below_drewN | apply below_drew1) | exact HB.out)) hb); clear HO225; clear HB; have HO225 := n0_; have HB := n1_; clear n0_ n1_; (try clear hb); (try clear hb2); (try clear hk); (try clear hi)) | (go_at_call 9; (with_reducible refine (refs_Encode.calls a1 t234 _ (tabs_below HT.out (by repeat (first | (with_reducible first | exact HB.out | apply below_alloc | apply pw_below_drewN | apply below_drew1) | exact HB.out))) A56.out).mono ?_); rintro e w71 ⟨rfl, hb⟩; have n0_ := Aside0.mk (Kd.R_below (by (with_reducible repeat (first | apply Kd.R_alloc | apply Kd.R_drewN | apply Kd.R_drew)); exact HO225.out) hb); have n1_ := Aside0.mk (below_step (by repeat (first | (with_reducible first | exact HB.out | apply below_alloc | apply pw_below_drewN | apply below_drew1) | exact HB.out)) hb); clear HO225; clear HB; have HO225 := n0_; have HB := n1_; clear n0_ n1_; (try clear hb); (try clear hb2); (try clear hk); (try clear hi)) | (go_at_call 11; (with_reducible refine (refs_Decode.calls ((⟨#[60]⟩ : ByteArray) ++ t234) t235 _ A58.out).mono ?_); rintro e w72 ⟨rfl, hb⟩; have n0_ := Aside0.mk (Kd.R_below (by (with_reducible repeat (first | apply Kd.R_alloc | apply Kd.R_drewN | apply Kd.R_drew)); exact HO225.out) hb); have n1_ := Aside0.mk (below_step (by repeat (first | (with_reducible first | exact HB.out | apply below_alloc | apply pw_below_drewN | apply below_drew1) | exact HB.out)) hb); clear HO225; clear HB; have HO225 := n0_; have HB := n1_; clear n0_ n1_; (try clear hb); (try clear hb2); (try clear hk); (try clear hi)) | (go_at_call 14; (with_reducible refine (stoleref1_Norm.calls k1 a1 t236 _ A59.out).mono ?_); rintro e w73 ⟨rfl, hb⟩; have n0_ := Aside0.mk (Kd.R_below (by (with_reducible repeat (first | apply Kd.R_alloc | apply Kd.R_drewN | apply Kd.R_drew)); exact HO225.out) hb); have n1_ := Aside0.mk (below_step (by repeat (first | (with_reducible first | exact HB.out | apply below_alloc | apply pw_below_drewN | apply below_drew1) | exact HB.out)) hb); clear HO225; clear HB; have HO225 := n0_; have HB := n1_; clear n0_ n1_; (try clear hb); (try clear hb2); (try clear hk); (try clear hi)))
                       go_ret
                       exact ⟨by first | rfl | (simp [errW_none, errW_some] <;> rfl) | (simp [*, errW_none, errW_some] <;> rfl) | (rw [ne_nil_not]; rfl), by repeat (first | (with_reducible first | exact HB.out | apply below_alloc | apply pw_below_drewN | apply below_drew1) | exact HB.out)⟩
                      ·rw [if_neg c60] at H
                       exact absurd H (by simp)
                     ·rw [if_neg c57] at H
                      exact absurd H (by simp)
                   ·rw [if_neg c44] at H
                    have c44b0 : (t233.toList == ([38, 35, 59, 38, 35, 120, 59, 38, 59] : List UInt8)) = false := beq_eq_false_iff_ne.mpr c44
                    have c44b1 : (t233.toList != ([38, 35, 59, 38, 35, 120, 59, 38, 59] : List UInt8)) = true := bne_iff_ne.mpr c44
                    obtain rfl := Option.some.inj H
                    go_wp2_with (first | ((with_reducible refine gate_callee (f := 15) rfl ?_); refine goesL_ (some 33) rfl rfl Tryd.func15 (by kernel_rfl) rfl #[.int .i64 (Go.bits .and .i64 a0 2097151)] rfl (by (try simp only [List.map_toArray, List.map_cons, List.map_nil]); first | done | rfl | (simp only [List.length_drop, List.length_take]; rfl)) ?_; (with_reducible refine (stoleref1_Rune.calls k1 (Go.bits .and .i64 a0 2097151) t223 _ A22.out).mono ?_); rintro e w74 ⟨v224, rfl, ho0, hb⟩; refine ⟨_, rfl, ?_⟩; have n0_ := Aside0.mk (Kd.R_lower ho0 (below_size (by repeat (first | (with_reducible first | exact HB.out | apply below_alloc | apply pw_below_drewN | apply below_drew1) | exact HB.out)))); have n1_ := Aside0.mk (below_step (by repeat (first | (with_reducible first | exact HB.out | apply below_alloc | apply pw_below_drewN | apply below_drew1) | exact HB.out)) hb); clear HB; have HO225 := n0_; have HB := n1_; clear n0_ n1_; (try clear hb); (try clear hb2); (try clear hk); (try clear hi); (try clear ho0); have hcv75 := own_string (P := Tryd.prog) Tryd.underlying27 Tryd.underlying5 Tryd.underlying9 (Kd.own_of_R HO225.out)) | ((with_reducible refine gate_callee (f := 16) rfl ?_); refine goesL_ (some 36) rfl rfl Tryd.func16 (by kernel_rfl) rfl #[.int .i64 (Go.bits .and .i64 a0 2097151)] rfl (by (try simp only [List.map_toArray, List.map_cons, List.map_nil]); first | done | rfl | (simp only [List.length_drop, List.length_take]; rfl)) ?_; (with_reducible refine (stoleref0_Decimal.calls k1 (Go.bits .and .i64 a0 2097151) t226 _ A23.out).mono ?_); rintro e w76 ⟨rfl, hb⟩; refine ⟨_, rfl, ?_⟩; have n0_ := Aside0.mk (Kd.R_below (by (with_reducible repeat (first | apply Kd.R_alloc | apply Kd.R_drewN | apply Kd.R_drew)); exact HO225.out) hb); have n1_ := Aside0.mk (below_step (by repeat (first | (with_reducible first | exact HB.out | apply below_alloc | apply pw_below_drewN | apply below_drew1) | exact HB.out)) hb); clear HO225; clear HB; have HO225 := n0_; have HB := n1_; clear n0_ n1_; (try clear hb); (try clear hb2); (try clear hk); (try clear hi)) | ((with_reducible refine gate_callee (f := 11) rfl ?_); refine goesL_ (some 39) rfl rfl Tryd.func11 (by kernel_rfl) rfl #[.string (((⟨#[38, 35]⟩ : ByteArray) ++ t226) ++ (⟨#[59]⟩ : ByteArray))] rfl (by (try simp only [List.map_toArray, List.map_cons, List.map_nil]); first | done | rfl | (simp only [List.length_drop, List.length_take]; rfl)) ?_; (with_reducible refine (refs_Decode.calls (((⟨#[38, 35]⟩ : ByteArray) ++ t226) ++ (⟨#[59]⟩ : ByteArray)) t227 _ A26.out).mono ?_); rintro e w77 ⟨rfl, hb⟩; refine ⟨_, rfl, ?_⟩; have n0_ := Aside0.mk (Kd.R_below (by (with_reducible repeat (first | apply Kd.R_alloc | apply Kd.R_drewN | apply Kd.R_drew)); exact HO225.out) hb); have n1_ := Aside0.mk (below_step (by repeat (first | (with_reducible first | exact HB.out | apply below_alloc | apply pw_below_drewN | apply below_drew1) | exact HB.out)) hb); clear HO225; clear HB; have HO225 := n0_; have HB := n1_; clear n0_ n1_; (try clear hb); (try clear hb2); (try clear hk); (try clear hi)) | ((with_reducible refine gate_callee (f := 11) rfl ?_); refine goesL_ (some 43) rfl rfl Tryd.func11 (by kernel_rfl) rfl #[.string (((⟨#[38, 35, 120]⟩ : ByteArray) ++ x6_1) ++ (⟨#[59]⟩ : ByteArray))] rfl (by (try simp only [List.map_toArray, List.map_cons, List.map_nil]); first | done | rfl | (simp only [List.length_drop, List.length_take]; rfl)) ?_; (with_reducible refine (refs_Decode.calls (((⟨#[38, 35, 120]⟩ : ByteArray) ++ x6_1) ++ (⟨#[59]⟩ : ByteArray)) t228 _ A29.out).mono ?_); rintro e w78 ⟨rfl, hb⟩; refine ⟨_, rfl, ?_⟩; have n0_ := Aside0.mk (Kd.R_below (by (with_reducible repeat (first | apply Kd.R_alloc | apply Kd.R_drewN | apply Kd.R_drew)); exact HO225.out) hb); have n1_ := Aside0.mk (below_step (by repeat (first | (with_reducible first | exact HB.out | apply below_alloc | apply pw_below_drewN | apply below_drew1) | exact HB.out)) hb); clear HO225; clear HB; have HO225 := n0_; have HB := n1_; clear n0_ n1_; (try clear hb); (try clear hb2); (try clear hk); (try clear hi)) | ((with_reducible refine gate_callee (f := 11) rfl ?_); refine goesL_ (some 47) rfl rfl Tryd.func11 (by kernel_rfl) rfl #[.string (((⟨#[38, 35, 88]⟩ : ByteArray) ++ x6_1) ++ (⟨#[59]⟩ : ByteArray))] rfl (by (try simp only [List.map_toArray, List.map_cons, List.map_nil]); first | done | rfl | (simp only [List.length_drop, List.length_take]; rfl)) ?_; (with_reducible refine (refs_Decode.calls (((⟨#[38, 35, 88]⟩ : ByteArray) ++ x6_1) ++ (⟨#[59]⟩ : ByteArray)) t229 _ A30.out).mono ?_); rintro e w79 ⟨rfl, hb⟩; refine ⟨_, rfl, ?_⟩; have n0_ := Aside0.mk (Kd.R_below (by (with_reducible repeat (first | apply Kd.R_alloc | apply Kd.R_drewN | apply Kd.R_drew)); exact HO225.out) hb); have n1_ := Aside0.mk (below_step (by repeat (first | (with_reducible first | exact HB.out | apply below_alloc | apply pw_below_drewN | apply below_drew1) | exact HB.out)) hb); clear HO225; clear HB; have HO225 := n0_; have HB := n1_; clear n0_ n1_; (try clear hb); (try clear hb2); (try clear hk); (try clear hi)) | (go_at_call 16; (with_reducible refine (stoleref0_Decimal.calls k1 (Go.bits .and .i64 a0 2097151) t230 _ A34.out).mono ?_); rintro e w80 ⟨rfl, hb⟩; have n0_ := Aside0.mk (Kd.R_below (by (with_reducible repeat (first | apply Kd.R_alloc | apply Kd.R_drewN | apply Kd.R_drew)); exact HO225.out) hb); have n1_ := Aside0.mk (below_step (by repeat (first | (with_reducible first | exact HB.out | apply below_alloc | apply pw_below_drewN | apply below_drew1) | exact HB.out)) hb); clear HO225; clear HB; have HO225 := n0_; have HB := n1_; clear n0_ n1_; (try clear hb); (try clear hb2); (try clear hk); (try clear hi)) | (go_at_call 11; (with_reducible refine (refs_Decode.calls ((((⟨#[38, 35]⟩ : ByteArray) ++ t230) ++ (⟨#[59]⟩ : ByteArray)) ++ (⟨#[38, 108, 116, 59]⟩ : ByteArray)) t231 _ A38.out).mono ?_); rintro e w81 ⟨rfl, hb⟩; have n0_ := Aside0.mk (Kd.R_below (by (with_reducible repeat (first | apply Kd.R_alloc | apply Kd.R_drewN | apply Kd.R_drew)); exact HO225.out) hb); have n1_ := Aside0.mk (below_step (by repeat (first | (with_reducible first | exact HB.out | apply below_alloc | apply pw_below_drewN | apply below_drew1) | exact HB.out)) hb); clear HO225; clear HB; have HO225 := n0_; have HB := n1_; clear n0_ n1_; (try clear hb); (try clear hb2); (try clear hk); (try clear hi)) | (go_at_call 11; (with_reducible refine (refs_Decode.calls ((⟨#[38, 35, 120]⟩ : ByteArray) ++ x6_1) t232 _ A41.out).mono ?_); rintro e w82 ⟨rfl, hb⟩; have n0_ := Aside0.mk (Kd.R_below (by (with_reducible repeat (first | apply Kd.R_alloc | apply Kd.R_drewN | apply Kd.R_drew)); exact HO225.out) hb); have n1_ := Aside0.mk (below_step (by repeat (first | (with_reducible first | exact HB.out | apply below_alloc | apply pw_below_drewN | apply below_drew1) | exact HB.out)) hb); clear HO225; clear HB; have HO225 := n0_; have HB := n1_; clear n0_ n1_; (try clear hb); (try clear hb2); (try clear hk); (try clear hi)) | (go_at_call 11; (with_reducible refine (refs_Decode.calls (⟨#[38, 35, 59, 38, 35, 120, 59, 38, 59]⟩ : ByteArray) t233 _ A43.out).mono ?_); rintro e w83 ⟨rfl, hb⟩; have n0_ := Aside0.mk (Kd.R_below (by (with_reducible repeat (first | apply Kd.R_alloc | apply Kd.R_drewN | apply Kd.R_drew)); exact HO225.out) hb); have n1_ := Aside0.mk (below_step (by repeat (first | (with_reducible first | exact HB.out | apply below_alloc | apply pw_below_drewN | apply below_drew1) | exact HB.out)) hb); clear HO225; clear HB; have HO225 := n0_; have HB := n1_; clear n0_ n1_; (try clear hb); (try clear hb2); (try clear hk); (try clear hi)))
                    go_ret
                    exact ⟨by first | rfl | (simp [errW_none, errW_some] <;> rfl) | (simp [*, errW_none, errW_some] <;> rfl) | (rw [ne_nil_not]; rfl), by repeat (first | (with_reducible first | exact HB.out | apply below_alloc | apply pw_below_drewN | apply below_drew1) | exact HB.out)⟩
                  ·rw [if_neg c42] at H
                   have c42b0 : (t232.toList == ((⟨#[38, 35, 120]⟩ : ByteArray) ++ x6_1).toList) = false := beq_eq_false_iff_ne.mpr c42
                   have c42b1 : (t232.toList != ((⟨#[38, 35, 120]⟩ : ByteArray) ++ x6_1).toList) = true := bne_iff_ne.mpr c42
                   obtain rfl := Option.some.inj H
                   go_wp2_with (first | ((with_reducible refine gate_callee (f := 15) rfl ?_); refine goesL_ (some 33) rfl rfl Tryd.func15 (by kernel_rfl) rfl #[.int .i64 (Go.bits .and .i64 a0 2097151)] rfl (by (try simp only [List.map_toArray, List.map_cons, List.map_nil]); first | done | rfl | (simp only [List.length_drop, List.length_take]; rfl)) ?_; (with_reducible refine (stoleref1_Rune.calls k1 (Go.bits .and .i64 a0 2097151) t223 _ A22.out).mono ?_); rintro e w84 ⟨v224, rfl, ho0, hb⟩; refine ⟨_, rfl, ?_⟩; have n0_ := Aside0.mk (Kd.R_lower ho0 (below_size (by repeat (first | (with_reducible first | exact HB.out | apply below_alloc | apply pw_below_drewN | apply below_drew1) | exact HB.out)))); have n1_ := Aside0.mk (below_step (by repeat (first | (with_reducible first | exact HB.out | apply below_alloc | apply pw_below_drewN | apply below_drew1) | exact HB.out)) hb); clear HB; have HO225 := n0_; have HB := n1_; clear n0_ n1_; (try clear hb); (try clear hb2); (try clear hk); (try clear hi); (try clear ho0); have hcv85 := own_string (P := Tryd.prog) Tryd.underlying27 Tryd.underlying5 Tryd.underlying9 (Kd.own_of_R HO225.out)) | ((with_reducible refine gate_callee (f := 16) rfl ?_); refine goesL_ (some 36) rfl rfl Tryd.func16 (by kernel_rfl) rfl #[.int .i64 (Go.bits .and .i64 a0 2097151)] rfl (by (try simp only [List.map_toArray, List.map_cons, List.map_nil]); first | done | rfl | (simp only [List.length_drop, List.length_take]; rfl)) ?_; (with_reducible refine (stoleref0_Decimal.calls k1 (Go.bits .and .i64 a0 2097151) t226 _ A23.out).mono ?_); rintro e w86 ⟨rfl, hb⟩; refine ⟨_, rfl, ?_⟩; have n0_ := Aside0.mk (Kd.R_below (by (with_reducible repeat (first | apply Kd.R_alloc | apply Kd.R_drewN | apply Kd.R_drew)); exact HO225.out) hb); have n1_ := Aside0.mk (below_step (by repeat (first | (with_reducible first | exact HB.out | apply below_alloc | apply pw_below_drewN | apply below_drew1) | exact HB.out)) hb); clear HO225; clear HB; have HO225 := n0_; have HB := n1_; clear n0_ n1_; (try clear hb); (try clear hb2); (try clear hk); (try clear hi)) | ((with_reducible refine gate_callee (f := 11) rfl ?_); refine goesL_ (some 39) rfl rfl Tryd.func11 (by kernel_rfl) rfl #[.string (((⟨#[38, 35]⟩ : ByteArray) ++ t226) ++ (⟨#[59]⟩ : ByteArray))] rfl (by (try simp only [List.map_toArray, List.map_cons, List.map_nil]); first | done | rfl | (simp only [List.length_drop, List.length_take]; rfl)) ?_; (with_reducible refine (refs_Decode.calls (((⟨#[38, 35]⟩ : ByteArray) ++ t226) ++ (⟨#[59]⟩ : ByteArray)) t227 _ A26.out).mono ?_); rintro e w87 ⟨rfl, hb⟩; refine ⟨_, rfl, ?_⟩; have n0_ := Aside0.mk (Kd.R_below (by (with_reducible repeat (first | apply Kd.R_alloc | apply Kd.R_drewN | apply Kd.R_drew)); exact HO225.out) hb); have n1_ := Aside0.mk (below_step (by repeat (first | (with_reducible first | exact HB.out | apply below_alloc | apply pw_below_drewN | apply below_drew1) | exact HB.out)) hb); clear HO225; clear HB; have HO225 := n0_; have HB := n1_; clear n0_ n1_; (try clear hb); (try clear hb2); (try clear hk); (try clear hi)) | ((with_reducible refine gate_callee (f := 11) rfl ?_); refine goesL_ (some 43) rfl rfl Tryd.func11 (by kernel_rfl) rfl #[.string (((⟨#[38, 35, 120]⟩ : ByteArray) ++ x6_1) ++ (⟨#[59]⟩ : ByteArray))] rfl (by (try simp only [List.map_toArray, List.map_cons, List.map_nil]); first | done | rfl | (simp only [List.length_drop, List.length_take]; rfl)) ?_; (with_reducible refine (refs_Decode.calls (((⟨#[38, 35, 120]⟩ : ByteArray) ++ x6_1) ++ (⟨#[59]⟩ : ByteArray)) t228 _ A29.out).mono ?_); rintro e w88 ⟨rfl, hb⟩; refine ⟨_, rfl, ?_⟩; have n0_ := Aside0.mk (Kd.R_below (by (with_reducible repeat (first | apply Kd.R_alloc | apply Kd.R_drewN | apply Kd.R_drew)); exact HO225.out) hb); have n1_ := Aside0.mk (below_step (by repeat (first | (with_reducible first | exact HB.out | apply below_alloc | apply pw_below_drewN | apply below_drew1) | exact HB.out)) hb); clear HO225; clear HB; have HO225 := n0_; have HB := n1_; clear n0_ n1_; (try clear hb); (try clear hb2); (try clear hk); (try clear hi)) | ((with_reducible refine gate_callee (f := 11) rfl ?_); refine goesL_ (some 47) rfl rfl Tryd.func11 (by kernel_rfl) rfl #[.string (((⟨#[38, 35, 88]⟩ : ByteArray) ++ x6_1) ++ (⟨#[59]⟩ : ByteArray))] rfl (by (try simp only [List.map_toArray, List.map_cons, List.map_nil]); first | done | rfl | (simp only [List.length_drop, List.length_take]; rfl)) ?_; (with_reducible refine (refs_Decode.calls (((⟨#[38, 35, 88]⟩ : ByteArray) ++ x6_1) ++ (⟨#[59]⟩ : ByteArray)) t229 _ A30.out).mono ?_); rintro e w89 ⟨rfl, hb⟩; refine ⟨_, rfl, ?_⟩; have n0_ := Aside0.mk (Kd.R_below (by (with_reducible repeat (first | apply Kd.R_alloc | apply Kd.R_drewN | apply Kd.R_drew)); exact HO225.out) hb); have n1_ := Aside0.mk (below_step (by repeat (first | (with_reducible first | exact HB.out | apply below_alloc | apply pw_below_drewN | apply below_drew1) | exact HB.out)) hb); clear HO225; clear HB; have HO225 := n0_; have HB := n1_; clear n0_ n1_; (try clear hb); (try clear hb2); (try clear hk); (try clear hi)) | (go_at_call 16; (with_reducible refine (stoleref0_Decimal.calls k1 (Go.bits .and .i64 a0 2097151) t230 _ A34.out).mono ?_); rintro e w90 ⟨rfl, hb⟩; have n0_ := Aside0.mk (Kd.R_below (by (with_reducible repeat (first | apply Kd.R_alloc | apply Kd.R_drewN | apply Kd.R_drew)); exact HO225.out) hb); have n1_ := Aside0.mk (below_step (by repeat (first | (with_reducible first | exact HB.out | apply below_alloc | apply pw_below_drewN | apply below_drew1) | exact HB.out)) hb); clear HO225; clear HB; have HO225 := n0_; have HB := n1_; clear n0_ n1_; (try clear hb); (try clear hb2); (try clear hk); (try clear hi)) | (go_at_call 11; (with_reducible refine (refs_Decode.calls ((((⟨#[38, 35]⟩ : ByteArray) ++ t230) ++ (⟨#[59]⟩ : ByteArray)) ++ (⟨#[38, 108, 116, 59]⟩ : ByteArray)) t231 _ A38.out).mono ?_); rintro e w91 ⟨rfl, hb⟩; have n0_ := Aside0.mk (Kd.R_below (by (with_reducible repeat (first | apply Kd.R_alloc | apply Kd.R_drewN | apply Kd.R_drew)); exact HO225.out) hb); have n1_ := Aside0.mk (below_step (by repeat (first | (with_reducible first | exact HB.out | apply below_alloc | apply pw_below_drewN | apply below_drew1) | exact HB.out)) hb); clear HO225; clear HB; have HO225 := n0_; have HB := n1_; clear n0_ n1_; (try clear hb); (try clear hb2); (try clear hk); (try clear hi)) | (go_at_call 11; (with_reducible refine (refs_Decode.calls ((⟨#[38, 35, 120]⟩ : ByteArray) ++ x6_1) t232 _ A41.out).mono ?_); rintro e w92 ⟨rfl, hb⟩; have n0_ := Aside0.mk (Kd.R_below (by (with_reducible repeat (first | apply Kd.R_alloc | apply Kd.R_drewN | apply Kd.R_drew)); exact HO225.out) hb); have n1_ := Aside0.mk (below_step (by repeat (first | (with_reducible first | exact HB.out | apply below_alloc | apply pw_below_drewN | apply below_drew1) | exact HB.out)) hb); clear HO225; clear HB; have HO225 := n0_; have HB := n1_; clear n0_ n1_; (try clear hb); (try clear hb2); (try clear hk); (try clear hi)))
                   go_ret
                   exact ⟨by first | rfl | (simp [errW_none, errW_some] <;> rfl) | (simp [*, errW_none, errW_some] <;> rfl) | (rw [ne_nil_not]; rfl), by repeat (first | (with_reducible first | exact HB.out | apply below_alloc | apply pw_below_drewN | apply below_drew1) | exact HB.out)⟩
                 ·rw [if_neg c40] at H
                  have c40b0 : (t231.toList == ((strOfNums t223) ++ (⟨#[60]⟩ : ByteArray)).toList) = false := beq_eq_false_iff_ne.mpr c40
                  have c40b1 : (t231.toList != ((strOfNums t223) ++ (⟨#[60]⟩ : ByteArray)).toList) = true := bne_iff_ne.mpr c40
                  obtain rfl := Option.some.inj H
                  go_wp2_with (first | ((with_reducible refine gate_callee (f := 15) rfl ?_); refine goesL_ (some 33) rfl rfl Tryd.func15 (by kernel_rfl) rfl #[.int .i64 (Go.bits .and .i64 a0 2097151)] rfl (by (try simp only [List.map_toArray, List.map_cons, List.map_nil]); first | done | rfl | (simp only [List.length_drop, List.length_take]; rfl)) ?_; (with_reducible refine (stoleref1_Rune.calls k1 (Go.bits .and .i64 a0 2097151) t223 _ A22.out).mono ?_); rintro e w93 ⟨v224, rfl, ho0, hb⟩; refine ⟨_, rfl, ?_⟩; have n0_ := Aside0.mk (Kd.R_lower ho0 (below_size (by repeat (first | (with_reducible first | exact HB.out | apply below_alloc | apply pw_below_drewN | apply below_drew1) | exact HB.out)))); have n1_ := Aside0.mk (below_step (by repeat (first | (with_reducible first | exact HB.out | apply below_alloc | apply pw_below_drewN | apply below_drew1) | exact HB.out)) hb); clear HB; have HO225 := n0_; have HB := n1_; clear n0_ n1_; (try clear hb); (try clear hb2); (try clear hk); (try clear hi); (try clear ho0); have hcv94 := own_string (P := Tryd.prog) Tryd.underlying27 Tryd.underlying5 Tryd.underlying9 (Kd.own_of_R HO225.out)) | ((with_reducible refine gate_callee (f := 16) rfl ?_); refine goesL_ (some 36) rfl rfl Tryd.func16 (by kernel_rfl) rfl #[.int .i64 (Go.bits .and .i64 a0 2097151)] rfl (by (try simp only [List.map_toArray, List.map_cons, List.map_nil]); first | done | rfl | (simp only [List.length_drop, List.length_take]; rfl)) ?_; (with_reducible refine (stoleref0_Decimal.calls k1 (Go.bits .and .i64 a0 2097151) t226 _ A23.out).mono ?_); rintro e w95 ⟨rfl, hb⟩; refine ⟨_, rfl, ?_⟩; have n0_ := Aside0.mk (Kd.R_below (by (with_reducible repeat (first | apply Kd.R_alloc | apply Kd.R_drewN | apply Kd.R_drew)); exact HO225.out) hb); have n1_ := Aside0.mk (below_step (by repeat (first | (with_reducible first | exact HB.out | apply below_alloc | apply pw_below_drewN | apply below_drew1) | exact HB.out)) hb); clear HO225; clear HB; have HO225 := n0_; have HB := n1_; clear n0_ n1_; (try clear hb); (try clear hb2); (try clear hk); (try clear hi)) | ((with_reducible refine gate_callee (f := 11) rfl ?_); refine goesL_ (some 39) rfl rfl Tryd.func11 (by kernel_rfl) rfl #[.string (((⟨#[38, 35]⟩ : ByteArray) ++ t226) ++ (⟨#[59]⟩ : ByteArray))] rfl (by (try simp only [List.map_toArray, List.map_cons, List.map_nil]); first | done | rfl | (simp only [List.length_drop, List.length_take]; rfl)) ?_; (with_reducible refine (refs_Decode.calls (((⟨#[38, 35]⟩ : ByteArray) ++ t226) ++ (⟨#[59]⟩ : ByteArray)) t227 _ A26.out).mono ?_); rintro e w96 ⟨rfl, hb⟩; refine ⟨_, rfl, ?_⟩; have n0_ := Aside0.mk (Kd.R_below (by (with_reducible repeat (first | apply Kd.R_alloc | apply Kd.R_drewN | apply Kd.R_drew)); exact HO225.out) hb); have n1_ := Aside0.mk (below_step (by repeat (first | (with_reducible first | exact HB.out | apply below_alloc | apply pw_below_drewN | apply below_drew1) | exact HB.out)) hb); clear HO225; clear HB; have HO225 := n0_; have HB := n1_; clear n0_ n1_; (try clear hb); (try clear hb2); (try clear hk); (try clear hi)) | ((with_reducible refine gate_callee (f := 11) rfl ?_); refine goesL_ (some 43) rfl rfl Tryd.func11 (by kernel_rfl) rfl #[.string (((⟨#[38, 35, 120]⟩ : ByteArray) ++ x6_1) ++ (⟨#[59]⟩ : ByteArray))] rfl (by (try simp only [List.map_toArray, List.map_cons, List.map_nil]); first | done | rfl | (simp only [List.length_drop, List.length_take]; rfl)) ?_; (with_reducible refine (refs_Decode.calls (((⟨#[38, 35, 120]⟩ : ByteArray) ++ x6_1) ++ (⟨#[59]⟩ : ByteArray)) t228 _ A29.out).mono ?_); rintro e w97 ⟨rfl, hb⟩; refine ⟨_, rfl, ?_⟩; have n0_ := Aside0.mk (Kd.R_below (by (with_reducible repeat (first | apply Kd.R_alloc | apply Kd.R_drewN | apply Kd.R_drew)); exact HO225.out) hb); have n1_ := Aside0.mk (below_step (by repeat (first | (with_reducible first | exact HB.out | apply below_alloc | apply pw_below_drewN | apply below_drew1) | exact HB.out)) hb); clear HO225; clear HB; have HO225 := n0_; have HB := n1_; clear n0_ n1_; (try clear hb); (try clear hb2); (try clear hk); (try clear hi)) | ((with_reducible refine gate_callee (f := 11) rfl ?_); refine goesL_ (some 47) rfl rfl Tryd.func11 (by kernel_rfl) rfl #[.string (((⟨#[38, 35, 88]⟩ : ByteArray) ++ x6_1) ++ (⟨#[59]⟩ : ByteArray))] rfl (by (try simp only [List.map_toArray, List.map_cons, List.map_nil]); first | done | rfl | (simp only [List.length_drop, List.length_take]; rfl)) ?_; (with_reducible refine (refs_Decode.calls (((⟨#[38, 35, 88]⟩ : ByteArray) ++ x6_1) ++ (⟨#[59]⟩ : ByteArray)) t229 _ A30.out).mono ?_); rintro e w98 ⟨rfl, hb⟩; refine ⟨_, rfl, ?_⟩; have n0_ := Aside0.mk (Kd.R_below (by (with_reducible repeat (first | apply Kd.R_alloc | apply Kd.R_drewN | apply Kd.R_drew)); exact HO225.out) hb); have n1_ := Aside0.mk (below_step (by repeat (first | (with_reducible first | exact HB.out | apply below_alloc | apply pw_below_drewN | apply below_drew1) | exact HB.out)) hb); clear HO225; clear HB; have HO225 := n0_; have HB := n1_; clear n0_ n1_; (try clear hb); (try clear hb2); (try clear hk); (try clear hi)) | (go_at_call 16; (with_reducible refine (stoleref0_Decimal.calls k1 (Go.bits .and .i64 a0 2097151) t230 _ A34.out).mono ?_); rintro e w99 ⟨rfl, hb⟩; have n0_ := Aside0.mk (Kd.R_below (by (with_reducible repeat (first | apply Kd.R_alloc | apply Kd.R_drewN | apply Kd.R_drew)); exact HO225.out) hb); have n1_ := Aside0.mk (below_step (by repeat (first | (with_reducible first | exact HB.out | apply below_alloc | apply pw_below_drewN | apply below_drew1) | exact HB.out)) hb); clear HO225; clear HB; have HO225 := n0_; have HB := n1_; clear n0_ n1_; (try clear hb); (try clear hb2); (try clear hk); (try clear hi)) | (go_at_call 11; (with_reducible refine (refs_Decode.calls ((((⟨#[38, 35]⟩ : ByteArray) ++ t230) ++ (⟨#[59]⟩ : ByteArray)) ++ (⟨#[38, 108, 116, 59]⟩ : ByteArray)) t231 _ A38.out).mono ?_); rintro e w100 ⟨rfl, hb⟩; have n0_ := Aside0.mk (Kd.R_below (by (with_reducible repeat (first | apply Kd.R_alloc | apply Kd.R_drewN | apply Kd.R_drew)); exact HO225.out) hb); have n1_ := Aside0.mk (below_step (by repeat (first | (with_reducible first | exact HB.out | apply below_alloc | apply pw_below_drewN | apply below_drew1) | exact HB.out)) hb); clear HO225; clear HB; have HO225 := n0_; have HB := n1_; clear n0_ n1_; (try clear hb); (try clear hb2); (try clear hk); (try clear hi)))
                  go_ret
                  exact ⟨by first | rfl | (simp [errW_none, errW_some] <;> rfl) | (simp [*, errW_none, errW_some] <;> rfl) | (rw [ne_nil_not]; rfl), by repeat (first | (with_reducible first | exact HB.out | apply below_alloc | apply pw_below_drewN | apply below_drew1) | exact HB.out)⟩
                ·rw [if_neg c39] at H
                 exact absurd H (by simp)
               ·rw [if_neg c37] at H
                exact absurd H (by simp)
              ·rw [if_neg c36] at H
               exact absurd H (by simp)
             ·rw [if_neg c35] at H
              exact absurd H (by simp)
            ·rw [if_neg c33] at H
             have c33b0 : (t229.toList == (strOfNums t223).toList) = false := beq_eq_false_iff_ne.mpr c33
             have c33b1 : (t229.toList != (strOfNums t223).toList) = true := bne_iff_ne.mpr c33
             obtain rfl := Option.some.inj H
             go_wp2_with (first | ((with_reducible refine gate_callee (f := 15) rfl ?_); refine goesL_ (some 33) rfl rfl Tryd.func15 (by kernel_rfl) rfl #[.int .i64 (Go.bits .and .i64 a0 2097151)] rfl (by (try simp only [List.map_toArray, List.map_cons, List.map_nil]); first | done | rfl | (simp only [List.length_drop, List.length_take]; rfl)) ?_; (with_reducible refine (stoleref1_Rune.calls k1 (Go.bits .and .i64 a0 2097151) t223 _ A22.out).mono ?_); rintro e w101 ⟨v224, rfl, ho0, hb⟩; refine ⟨_, rfl, ?_⟩; have n0_ := Aside0.mk (Kd.R_lower ho0 (below_size (by repeat (first | (with_reducible first | exact HB.out | apply below_alloc | apply pw_below_drewN | apply below_drew1) | exact HB.out)))); have n1_ := Aside0.mk (below_step (by repeat (first | (with_reducible first | exact HB.out | apply below_alloc | apply pw_below_drewN | apply below_drew1) | exact HB.out)) hb); clear HB; have HO225 := n0_; have HB := n1_; clear n0_ n1_; (try clear hb); (try clear hb2); (try clear hk); (try clear hi); (try clear ho0); have hcv102 := own_string (P := Tryd.prog) Tryd.underlying27 Tryd.underlying5 Tryd.underlying9 (Kd.own_of_R HO225.out)) | ((with_reducible refine gate_callee (f := 16) rfl ?_); refine goesL_ (some 36) rfl rfl Tryd.func16 (by kernel_rfl) rfl #[.int .i64 (Go.bits .and .i64 a0 2097151)] rfl (by (try simp only [List.map_toArray, List.map_cons, List.map_nil]); first | done | rfl | (simp only [List.length_drop, List.length_take]; rfl)) ?_; (with_reducible refine (stoleref0_Decimal.calls k1 (Go.bits .and .i64 a0 2097151) t226 _ A23.out).mono ?_); rintro e w103 ⟨rfl, hb⟩; refine ⟨_, rfl, ?_⟩; have n0_ := Aside0.mk (Kd.R_below (by (with_reducible repeat (first | apply Kd.R_alloc | apply Kd.R_drewN | apply Kd.R_drew)); exact HO225.out) hb); have n1_ := Aside0.mk (below_step (by repeat (first | (with_reducible first | exact HB.out | apply below_alloc | apply pw_below_drewN | apply below_drew1) | exact HB.out)) hb); clear HO225; clear HB; have HO225 := n0_; have HB := n1_; clear n0_ n1_; (try clear hb); (try clear hb2); (try clear hk); (try clear hi)) | ((with_reducible refine gate_callee (f := 11) rfl ?_); refine goesL_ (some 39) rfl rfl Tryd.func11 (by kernel_rfl) rfl #[.string (((⟨#[38, 35]⟩ : ByteArray) ++ t226) ++ (⟨#[59]⟩ : ByteArray))] rfl (by (try simp only [List.map_toArray, List.map_cons, List.map_nil]); first | done | rfl | (simp only [List.length_drop, List.length_take]; rfl)) ?_; (with_reducible refine (refs_Decode.calls (((⟨#[38, 35]⟩ : ByteArray) ++ t226) ++ (⟨#[59]⟩ : ByteArray)) t227 _ A26.out).mono ?_); rintro e w104 ⟨rfl, hb⟩; refine ⟨_, rfl, ?_⟩; have n0_ := Aside0.mk (Kd.R_below (by (with_reducible repeat (first | apply Kd.R_alloc | apply Kd.R_drewN | apply Kd.R_drew)); exact HO225.out) hb); have n1_ := Aside0.mk (below_step (by repeat (first | (with_reducible first | exact HB.out | apply below_alloc | apply pw_below_drewN | apply below_drew1) | exact HB.out)) hb); clear HO225; clear HB; have HO225 := n0_; have HB := n1_; clear n0_ n1_; (try clear hb); (try clear hb2); (try clear hk); (try clear hi)) | ((with_reducible refine gate_callee (f := 11) rfl ?_); refine goesL_ (some 43) rfl rfl Tryd.func11 (by kernel_rfl) rfl #[.string (((⟨#[38, 35, 120]⟩ : ByteArray) ++ x6_1) ++ (⟨#[59]⟩ : ByteArray))] rfl (by (try simp only [List.map_toArray, List.map_cons, List.map_nil]); first | done | rfl | (simp only [List.length_drop, List.length_take]; rfl)) ?_; (with_reducible refine (refs_Decode.calls (((⟨#[38, 35, 120]⟩ : ByteArray) ++ x6_1) ++ (⟨#[59]⟩ : ByteArray)) t228 _ A29.out).mono ?_); rintro e w105 ⟨rfl, hb⟩; refine ⟨_, rfl, ?_⟩; have n0_ := Aside0.mk (Kd.R_below (by (with_reducible repeat (first | apply Kd.R_alloc | apply Kd.R_drewN | apply Kd.R_drew)); exact HO225.out) hb); have n1_ := Aside0.mk (below_step (by repeat (first | (with_reducible first | exact HB.out | apply below_alloc | apply pw_below_drewN | apply below_drew1) | exact HB.out)) hb); clear HO225; clear HB; have HO225 := n0_; have HB := n1_; clear n0_ n1_; (try clear hb); (try clear hb2); (try clear hk); (try clear hi)) | ((with_reducible refine gate_callee (f := 11) rfl ?_); refine goesL_ (some 47) rfl rfl Tryd.func11 (by kernel_rfl) rfl #[.string (((⟨#[38, 35, 88]⟩ : ByteArray) ++ x6_1) ++ (⟨#[59]⟩ : ByteArray))] rfl (by (try simp only [List.map_toArray, List.map_cons, List.map_nil]); first | done | rfl | (simp only [List.length_drop, List.length_take]; rfl)) ?_; (with_reducible refine (refs_Decode.calls (((⟨#[38, 35, 88]⟩ : ByteArray) ++ x6_1) ++ (⟨#[59]⟩ : ByteArray)) t229 _ A30.out).mono ?_); rintro e w106 ⟨rfl, hb⟩; refine ⟨_, rfl, ?_⟩; have n0_ := Aside0.mk (Kd.R_below (by (with_reducible repeat (first | apply Kd.R_alloc | apply Kd.R_drewN | apply Kd.R_drew)); exact HO225.out) hb); have n1_ := Aside0.mk (below_step (by repeat (first | (with_reducible first | exact HB.out | apply below_alloc | apply pw_below_drewN | apply below_drew1) | exact HB.out)) hb); clear HO225; clear HB; have HO225 := n0_; have HB := n1_; clear n0_ n1_; (try clear hb); (try clear hb2); (try clear hk); (try clear hi)))
             go_ret
             exact ⟨by first | rfl | (simp [errW_none, errW_some] <;> rfl) | (simp [*, errW_none, errW_some] <;> rfl) | (rw [ne_nil_not]; rfl), by repeat (first | (with_reducible first | exact HB.out | apply below_alloc | apply pw_below_drewN | apply below_drew1) | exact HB.out)⟩
           ·rw [if_neg c32] at H
            have c32b0 : (t228.toList == (strOfNums t223).toList) = false := beq_eq_false_iff_ne.mpr c32
            have c32b1 : (t228.toList != (strOfNums t223).toList) = true := bne_iff_ne.mpr c32
            obtain rfl := Option.some.inj H
            go_wp2_with (first | ((with_reducible refine gate_callee (f := 15) rfl ?_); refine goesL_ (some 33) rfl rfl Tryd.func15 (by kernel_rfl) rfl #[.int .i64 (Go.bits .and .i64 a0 2097151)] rfl (by (try simp only [List.map_toArray, List.map_cons, List.map_nil]); first | done | rfl | (simp only [List.length_drop, List.length_take]; rfl)) ?_; (with_reducible refine (stoleref1_Rune.calls k1 (Go.bits .and .i64 a0 2097151) t223 _ A22.out).mono ?_); rintro e w107 ⟨v224, rfl, ho0, hb⟩; refine ⟨_, rfl, ?_⟩; have n0_ := Aside0.mk (Kd.R_lower ho0 (below_size (by repeat (first | (with_reducible first | exact HB.out | apply below_alloc | apply pw_below_drewN | apply below_drew1) | exact HB.out)))); have n1_ := Aside0.mk (below_step (by repeat (first | (with_reducible first | exact HB.out | apply below_alloc | apply pw_below_drewN | apply below_drew1) | exact HB.out)) hb); clear HB; have HO225 := n0_; have HB := n1_; clear n0_ n1_; (try clear hb); (try clear hb2); (try clear hk); (try clear hi); (try clear ho0); have hcv108 := own_string (P := Tryd.prog) Tryd.underlying27 Tryd.underlying5 Tryd.underlying9 (Kd.own_of_R HO225.out)) | ((with_reducible refine gate_callee (f := 16) rfl ?_); refine goesL_ (some 36) rfl rfl Tryd.func16 (by kernel_rfl) rfl #[.int .i64 (Go.bits .and .i64 a0 2097151)] rfl (by (try simp only [List.map_toArray, List.map_cons, List.map_nil]); first | done | rfl | (simp only [List.length_drop, List.length_take]; rfl)) ?_; (with_reducible refine (stoleref0_Decimal.calls k1 (Go.bits .and .i64 a0 2097151) t226 _ A23.out).mono ?_); rintro e w109 ⟨rfl, hb⟩; refine ⟨_, rfl, ?_⟩; have n0_ := Aside0.mk (Kd.R_below (by (with_reducible repeat (first | apply Kd.R_alloc | apply Kd.R_drewN | apply Kd.R_drew)); exact HO225.out) hb); have n1_ := Aside0.mk (below_step (by repeat (first | (with_reducible first | exact HB.out | apply below_alloc | apply pw_below_drewN | apply below_drew1) | exact HB.out)) hb); clear HO225; clear HB; have HO225 := n0_; have HB := n1_; clear n0_ n1_; (try clear hb); (try clear hb2); (try clear hk); (try clear hi)) | ((with_reducible refine gate_callee (f := 11) rfl ?_); refine goesL_ (some 39) rfl rfl Tryd.func11 (by kernel_rfl) rfl #[.string (((⟨#[38, 35]⟩ : ByteArray) ++ t226) ++ (⟨#[59]⟩ : ByteArray))] rfl (by (try simp only [List.map_toArray, List.map_cons, List.map_nil]); first | done | rfl | (simp only [List.length_drop, List.length_take]; rfl)) ?_; (with_reducible refine (refs_Decode.calls (((⟨#[38, 35]⟩ : ByteArray) ++ t226) ++ (⟨#[59]⟩ : ByteArray)) t227 _ A26.out).mono ?_); rintro e w110 ⟨rfl, hb⟩; refine ⟨_, rfl, ?_⟩; have n0_ := Aside0.mk (Kd.R_below (by (with_reducible repeat (first | apply Kd.R_alloc | apply Kd.R_drewN | apply Kd.R_drew)); exact HO225.out) hb); have n1_ := Aside0.mk (below_step (by repeat (first | (with_reducible first | exact HB.out | apply below_alloc | apply pw_below_drewN | apply below_drew1) | exact HB.out)) hb); clear HO225; clear HB; have HO225 := n0_; have HB := n1_; clear n0_ n1_; (try clear hb); (try clear hb2); (try clear hk); (try clear hi)) | ((with_reducible refine gate_callee (f := 11) rfl ?_); refine goesL_ (some 43) rfl rfl Tryd.func11 (by kernel_rfl) rfl #[.string (((⟨#[38, 35, 120]⟩ : ByteArray) ++ x6_1) ++ (⟨#[59]⟩ : ByteArray))] rfl (by (try simp only [List.map_toArray, List.map_cons, List.map_nil]); first | done | rfl | (simp only [List.length_drop, List.length_take]; rfl)) ?_; (with_reducible refine (refs_Decode.calls (((⟨#[38, 35, 120]⟩ : ByteArray) ++ x6_1) ++ (⟨#[59]⟩ : ByteArray)) t228 _ A29.out).mono ?_); rintro e w111 ⟨rfl, hb⟩; refine ⟨_, rfl, ?_⟩; have n0_ := Aside0.mk (Kd.R_below (by (with_reducible repeat (first | apply Kd.R_alloc | apply Kd.R_drewN | apply Kd.R_drew)); exact HO225.out) hb); have n1_ := Aside0.mk (below_step (by repeat (first | (with_reducible first | exact HB.out | apply below_alloc | apply pw_below_drewN | apply below_drew1) | exact HB.out)) hb); clear HO225; clear HB; have HO225 := n0_; have HB := n1_; clear n0_ n1_; (try clear hb); (try clear hb2); (try clear hk); (try clear hi)) | ((with_reducible refine gate_callee (f := 11) rfl ?_); refine goesL_ (some 47) rfl rfl Tryd.func11 (by kernel_rfl) rfl #[.string (((⟨#[38, 35, 88]⟩ : ByteArray) ++ x6_1) ++ (⟨#[59]⟩ : ByteArray))] rfl (by (try simp only [List.map_toArray, List.map_cons, List.map_nil]); first | done | rfl | (simp only [List.length_drop, List.length_take]; rfl)) ?_; (with_reducible refine (refs_Decode.calls (((⟨#[38, 35, 88]⟩ : ByteArray) ++ x6_1) ++ (⟨#[59]⟩ : ByteArray)) t229 _ A30.out).mono ?_); rintro e w112 ⟨rfl, hb⟩; refine ⟨_, rfl, ?_⟩; have n0_ := Aside0.mk (Kd.R_below (by (with_reducible repeat (first | apply Kd.R_alloc | apply Kd.R_drewN | apply Kd.R_drew)); exact HO225.out) hb); have n1_ := Aside0.mk (below_step (by repeat (first | (with_reducible first | exact HB.out | apply below_alloc | apply pw_below_drewN | apply below_drew1) | exact HB.out)) hb); clear HO225; clear HB; have HO225 := n0_; have HB := n1_; clear n0_ n1_; (try clear hb); (try clear hb2); (try clear hk); (try clear hi)))
            go_ret
            exact ⟨by first | rfl | (simp [errW_none, errW_some] <;> rfl) | (simp [*, errW_none, errW_some] <;> rfl) | (rw [ne_nil_not]; rfl), by repeat (first | (with_reducible first | exact HB.out | apply below_alloc | apply pw_below_drewN | apply below_drew1) | exact HB.out)⟩
          ·rw [if_neg c31] at H
           have c31b0 : (t227.toList == (strOfNums t223).toList) = false := beq_eq_false_iff_ne.mpr c31
           have c31b1 : (t227.toList != (strOfNums t223).toList) = true := bne_iff_ne.mpr c31
           obtain rfl := Option.some.inj H
           go_wp2_with (first | ((with_reducible refine gate_callee (f := 15) rfl ?_); refine goesL_ (some 33) rfl rfl Tryd.func15 (by kernel_rfl) rfl #[.int .i64 (Go.bits .and .i64 a0 2097151)] rfl (by (try simp only [List.map_toArray, List.map_cons, List.map_nil]); first | done | rfl | (simp only [List.length_drop, List.length_take]; rfl)) ?_; (with_reducible refine (stoleref1_Rune.calls k1 (Go.bits .and .i64 a0 2097151) t223 _ A22.out).mono ?_); rintro e w113 ⟨v224, rfl, ho0, hb⟩; refine ⟨_, rfl, ?_⟩; have n0_ := Aside0.mk (Kd.R_lower ho0 (below_size (by repeat (first | (with_reducible first | exact HB.out | apply below_alloc | apply pw_below_drewN | apply below_drew1) | exact HB.out)))); have n1_ := Aside0.mk (below_step (by repeat (first | (with_reducible first | exact HB.out | apply below_alloc | apply pw_below_drewN | apply below_drew1) | exact HB.out)) hb); clear HB; have HO225 := n0_; have HB := n1_; clear n0_ n1_; (try clear hb); (try clear hb2); (try clear hk); (try clear hi); (try clear ho0); have hcv114 := own_string (P := Tryd.prog) Tryd.underlying27 Tryd.underlying5 Tryd.underlying9 (Kd.own_of_R HO225.out)) | ((with_reducible refine gate_callee (f := 16) rfl ?_); refine goesL_ (some 36) rfl rfl Tryd.func16 (by kernel_rfl) rfl #[.int .i64 (Go.bits .and .i64 a0 2097151)] rfl (by (try simp only [List.map_toArray, List.map_cons, List.map_nil]); first | done | rfl | (simp only [List.length_drop, List.length_take]; rfl)) ?_; (with_reducible refine (stoleref0_Decimal.calls k1 (Go.bits .and .i64 a0 2097151) t226 _ A23.out).mono ?_); rintro e w115 ⟨rfl, hb⟩; refine ⟨_, rfl, ?_⟩; have n0_ := Aside0.mk (Kd.R_below (by (with_reducible repeat (first | apply Kd.R_alloc | apply Kd.R_drewN | apply Kd.R_drew)); exact HO225.out) hb); have n1_ := Aside0.mk (below_step (by repeat (first | (with_reducible first | exact HB.out | apply below_alloc | apply pw_below_drewN | apply below_drew1) | exact HB.out)) hb); clear HO225; clear HB; have HO225 := n0_; have HB := n1_; clear n0_ n1_; (try clear hb); (try clear hb2); (try clear hk); (try clear hi)) | ((with_reducible refine gate_callee (f := 11) rfl ?_); refine goesL_ (some 39) rfl rfl Tryd.func11 (by kernel_rfl) rfl #[.string (((⟨#[38, 35]⟩ : ByteArray) ++ t226) ++ (⟨#[59]⟩ : ByteArray))] rfl (by (try simp only [List.map_toArray, List.map_cons, List.map_nil]); first | done | rfl | (simp only [List.length_drop, List.length_take]; rfl)) ?_; (with_reducible refine (refs_Decode.calls (((⟨#[38, 35]⟩ : ByteArray) ++ t226) ++ (⟨#[59]⟩ : ByteArray)) t227 _ A26.out).mono ?_); rintro e w116 ⟨rfl, hb⟩; refine ⟨_, rfl, ?_⟩; have n0_ := Aside0.mk (Kd.R_below (by (with_reducible repeat (first | apply Kd.R_alloc | apply Kd.R_drewN | apply Kd.R_drew)); exact HO225.out) hb); have n1_ := Aside0.mk (below_step (by repeat (first | (with_reducible first | exact HB.out | apply below_alloc | apply pw_below_drewN | apply below_drew1) | exact HB.out)) hb); clear HO225; clear HB; have HO225 := n0_; have HB := n1_; clear n0_ n1_; (try clear hb); (try clear hb2); (try clear hk); (try clear hi)) | ((with_reducible refine gate_callee (f := 11) rfl ?_); refine goesL_ (some 43) rfl rfl Tryd.func11 (by kernel_rfl) rfl #[.string (((⟨#[38, 35, 120]⟩ : ByteArray) ++ x6_1) ++ (⟨#[59]⟩ : ByteArray))] rfl (by (try simp only [List.map_toArray, List.map_cons, List.map_nil]); first | done | rfl | (simp only [List.length_drop, List.length_take]; rfl)) ?_; (with_reducible refine (refs_Decode.calls (((⟨#[38, 35, 120]⟩ : ByteArray) ++ x6_1) ++ (⟨#[59]⟩ : ByteArray)) t228 _ A29.out).mono ?_); rintro e w117 ⟨rfl, hb⟩; refine ⟨_, rfl, ?_⟩; have n0_ := Aside0.mk (Kd.R_below (by (with_reducible repeat (first | apply Kd.R_alloc | apply Kd.R_drewN | apply Kd.R_drew)); exact HO225.out) hb); have n1_ := Aside0.mk (below_step (by repeat (first | (with_reducible first | exact HB.out | apply below_alloc | apply pw_below_drewN | apply below_drew1) | exact HB.out)) hb); clear HO225; clear HB; have HO225 := n0_; have HB := n1_; clear n0_ n1_; (try clear hb); (try clear hb2); (try clear hk); (try clear hi)) | ((with_reducible refine gate_callee (f := 11) rfl ?_); refine goesL_ (some 47) rfl rfl Tryd.func11 (by kernel_rfl) rfl #[.string (((⟨#[38, 35, 88]⟩ : ByteArray) ++ x6_1) ++ (⟨#[59]⟩ : ByteArray))] rfl (by (try simp only [List.map_toArray, List.map_cons, List.map_nil]); first | done | rfl | (simp only [List.length_drop, List.length_take]; rfl)) ?_; (with_reducible refine (refs_Decode.calls (((⟨#[38, 35, 88]⟩ : ByteArray) ++ x6_1) ++ (⟨#[59]⟩ : ByteArray)) t229 _ A30.out).mono ?_); rintro e w118 ⟨rfl, hb⟩; refine ⟨_, rfl, ?_⟩; have n0_ := Aside0.mk (Kd.R_below (by (with_reducible repeat (first | apply Kd.R_alloc | apply Kd.R_drewN | apply Kd.R_drew)); exact HO225.out) hb); have n1_ := Aside0.mk (below_step (by repeat (first | (with_reducible first | exact HB.out | apply below_alloc | apply pw_below_drewN | apply below_drew1) | exact HB.out)) hb); clear HO225; clear HB; have HO225 := n0_; have HB := n1_; clear n0_ n1_; (try clear hb); (try clear hb2); (try clear hk); (try clear hi)))
           go_ret
           exact ⟨by first | rfl | (simp [errW_none, errW_some] <;> rfl) | (simp [*, errW_none, errW_some] <;> rfl) | (rw [ne_nil_not]; rfl), by repeat (first | (with_reducible first | exact HB.out | apply below_alloc | apply pw_below_drewN | apply below_drew1) | exact HB.out)⟩
         ·rw [if_neg c28] at H
          exact absurd H (by simp)
        ·rw [if_neg c27] at H
         exact absurd H (by simp)
       ·rw [if_neg c25] at H
        exact absurd H (by simp)
      ·rw [if_neg c24] at H
       exact absurd H (by simp)
 ·replace c4 := Bool.eq_false_iff.mpr c4
  subst c4
  have H1 : (some false) = some r := by rw [if_neg (show ¬ (false = true) by decide)] at H; exact H
  clear H
  have H := H1
  clear H1
  obtain rfl := Option.some.inj H
  go_enter Tryd.func5, Tryd.ntmps5
  go_wp2_with (first | ((with_reducible refine gate_callee (f := 13) rfl ?_); refine goesL_ (some 12) rfl rfl Tryd.func13 (by kernel_rfl) rfl #[] rfl (by (try simp only [List.map_toArray, List.map_cons, List.map_nil]); first | done | rfl | (simp only [List.length_drop, List.length_take]; rfl)) ?_; (with_reducible refine (stolelaw2_awake.calls  false _ (tabs_below HT.out (by repeat (first | (with_reducible first | exact HB.out | apply below_alloc | apply pw_below_drewN | apply below_drew1) | exact HB.out))) A3.out).mono ?_); rintro e w119 ⟨rfl, hb⟩; refine ⟨_, rfl, ?_⟩; have n0_ := Aside0.mk (below_step (by repeat (first | (with_reducible first | exact HB.out | apply below_alloc | apply pw_below_drewN | apply below_drew1) | exact HB.out)) hb); clear HB; have HB := n0_; clear n0_; (try clear hb); (try clear hb2); (try clear hk); (try clear hi)))
  go_ret
  exact ⟨by first | rfl | (simp [errW_none, errW_some] <;> rfl) | (simp [*, errW_none, errW_some] <;> rfl) | (rw [ne_nil_not]; rfl), by repeat (first | (with_reducible first | exact HB.out | apply below_alloc | apply pw_below_drewN | apply below_drew1) | exact HB.out)⟩

/-- THE ONE PURE STATEMENT of stolelaw2_RefNumbers: yours. -/
def stolelaw2_RefNumbers.Pure : Prop := ∀ (a0 : Int) (a1 : ByteArray), (Lit.int .i64 a0).wf = true → a1.size ≤ 140737488351232 → ∃ k, stolelaw2_RefNumbers.f k a0 a1 = some true
theorem stolelaw2_RefNumbers.walk (P : stolelaw2_RefNumbers.Pure) (a0 : Int) (a1 : ByteArray) (w : World) (hT : Tabs w) (w0 : (Lit.int .i64 a0).wf = true) (w1 : a1.size ≤ 140737488351232) :
  Calls Tryd.prog 5 #[.int .i64 a0, .string a1] w fun e w' => e = .returned (.bool true) ∧ Below w.heap.size w w' := by
 obtain ⟨k, h⟩ := P a0 a1 w0 w1
 refine (stolelaw2_RefNumbers.calls k a0 a1 true w hT h).mono ?_
 rintro e w' ⟨rfl, hd⟩
 exact ⟨rfl, hd⟩

-- NOT PRINTED: function 6 (stolelaw2_RefNames)

/-! ### stolelaw2_RefPlain: function 7 -/
mutual
def stolelaw2_RefPlain.l0 : Nat → ByteArray → ByteArray → Int → Option (Bool)
 | 0, _, _, _ => none
 | k + 1, x0, x3, x4 => if x4 < (x0.size : Int) then (stolelaw2_RefPlain.j1 k x0 x3 x4 (decide (x4 < 500))) else (stolelaw2_RefPlain.j1 k x0 x3 x4 false)
def stolelaw2_RefPlain.j1 : Nat → ByteArray → ByteArray → Int → Bool → Option (Bool)
 | 0, _, _, _, _ => none
 | k + 1, x0, x3, x4, x14 => if x14 = true then (if 0 ≤ x4 then (if x4 < (x0.size : Int) then (if (bt x0 x4) = 59 then (stolelaw2_RefPlain.l0 k x0 x3 (wrap64 (x4 + 1))) else (if x4 ≤ (wrap64 (x4 + 1)) then (if (wrap64 (x4 + 1)) ≤ (x0.size : Int) then (if x3.size + (x0.extract (x4 : Int).toNat ((wrap64 (x4 + 1)) : Int).toNat).size ≤ 9223372036854775807 then (stolelaw2_RefPlain.l0 k x0 (x3 ++ (x0.extract (x4 : Int).toNat ((wrap64 (x4 + 1)) : Int).toNat)) (wrap64 (x4 + 1))) else (none)) else (none)) else (none))) else (none)) else (none)) else ((refs_Decode.f x3).bind fun t260 => (some (t260.toList == x3.toList)))
end
def stolelaw2_RefPlain.f (k : Nat) (a0 : ByteArray) : Option (Bool) := (stolelaw2_awake.f).bind fun t259 => (if t259 = true then (stolelaw2_RefPlain.l0 k a0 (⟨#[]⟩ : ByteArray) 0) else (some false))
theorem stolelaw2_RefPlain.mono_l : ∀ k, (∀ y0 y1 y2, LeO (stolelaw2_RefPlain.l0 k y0 y1 y2) (stolelaw2_RefPlain.l0 (k + 1) y0 y1 y2)) ∧ (∀ y0 y1 y2 y3, LeO (stolelaw2_RefPlain.j1 k y0 y1 y2 y3) (stolelaw2_RefPlain.j1 (k + 1) y0 y1 y2 y3))
 | 0 => ⟨fun _ _ _ r h => by simp [stolelaw2_RefPlain.l0] at h, fun _ _ _ _ r h => by simp [stolelaw2_RefPlain.j1] at h⟩
 | k + 1 => by
  obtain ⟨ih0, ih1⟩ := stolelaw2_RefPlain.mono_l k
  refine ⟨?_, ?_⟩
  ·intro y0 y1 y2
   unfold stolelaw2_RefPlain.l0
   repeat' first
   | (with_reducible exact ih0 _ _ _)
   | (with_reducible exact ih1 _ _ _ _)
   | (with_reducible exact LeO.refl _)
   | (with_reducible exact LeO.none _)
   | (with_reducible refine LeO.ite ?_ ?_)
   | (with_reducible refine LeO.bind ?_ (fun _ => ?_))
   | exact ih0 _ _ _
   | exact ih1 _ _ _ _
   | exact LeO.none _
   | refine LeO.ite ?_ ?_
   | refine LeO.bind ?_ (fun _ => ?_)
  ·intro y0 y1 y2 y3
   unfold stolelaw2_RefPlain.j1
   repeat' first
   | (with_reducible exact ih0 _ _ _)
   | (with_reducible exact ih1 _ _ _ _)
   | (with_reducible exact LeO.refl _)
   | (with_reducible exact LeO.none _)
   | (with_reducible refine LeO.ite ?_ ?_)
   | (with_reducible refine LeO.bind ?_ (fun _ => ?_))
   | exact ih0 _ _ _
   | exact ih1 _ _ _ _
   | exact LeO.none _
   | refine LeO.ite ?_ ?_
   | refine LeO.bind ?_ (fun _ => ?_)
theorem stolelaw2_RefPlain.mono : ∀ a0 k, LeO (stolelaw2_RefPlain.f k a0) (stolelaw2_RefPlain.f (k + 1) a0) := by
 intro a0 k
 obtain ⟨ih0, ih1⟩ := stolelaw2_RefPlain.mono_l k
 unfold stolelaw2_RefPlain.f
 repeat' first
   | (with_reducible exact ih0 _ _ _)
   | (with_reducible exact ih1 _ _ _ _)
   | (with_reducible exact LeO.refl _)
   | (with_reducible exact LeO.none _)
   | (with_reducible refine LeO.ite ?_ ?_)
   | (with_reducible refine LeO.bind ?_ (fun _ => ?_))
   | exact ih0 _ _ _
   | exact ih1 _ _ _ _
   | exact LeO.none _
   | refine LeO.ite ?_ ?_
   | refine LeO.bind ?_ (fun _ => ?_)
set_option maxHeartbeats 8000000 in
set_option maxRecDepth 100000 in
theorem stolelaw2_RefPlain.calls (k : Nat) (a0 : ByteArray) (r : Bool) (w : World) (hT : Tabs w) (h : stolelaw2_RefPlain.f k a0 = some r) :
  Calls Tryd.prog 7 #[.string a0] w fun e w' => e = .returned (.bool r) ∧ Below w.heap.size w w' := by
 have HT := Aside0.mk hT
 clear hT
 have HB := Aside0.mk (Below.refl w.heap.size w)
 have H : ((stolelaw2_awake.f).bind fun t259 => (if t259 = true then (stolelaw2_RefPlain.l0 k a0 (⟨#[]⟩ : ByteArray) 0) else (some false))) = some r := h
 clear h
 replace H := Option.bind_eq_some_iff.mp H
 obtain ⟨t259, A20, H⟩ := H
 replace H : (if t259 = true then (stolelaw2_RefPlain.l0 k a0 (⟨#[]⟩ : ByteArray) 0) else (some false)) = some r := H
 have A2 := Aside0.mk A20
 clear A20
 by_cases c3 : t259 = true
 ·subst c3
  have H1 : (stolelaw2_RefPlain.l0 k a0 (⟨#[]⟩ : ByteArray) 0) = some r := by rw [if_pos rfl] at H; exact H
  clear H
  have H := H1
  clear H1
  have H' := Aside0.mk H
  clear H
  go_enter Tryd.func7, Tryd.ntmps7
  go_wp2_with (first | ((with_reducible refine gate_callee (f := 13) rfl ?_); refine goesL_ (some 5) rfl rfl Tryd.func13 (by kernel_rfl) rfl #[] rfl (by (try simp only [List.map_toArray, List.map_cons, List.map_nil]); first | done | rfl | (simp only [List.length_drop, List.length_take]; rfl)) ?_; (with_reducible refine (stolelaw2_awake.calls  true _ (tabs_below HT.out (by repeat (first | (with_reducible first | exact HB.out | apply below_alloc | apply pw_below_drewN | apply below_drew1) | exact HB.out))) A2.out).mono ?_); rintro e w4 ⟨rfl, hb⟩; refine ⟨_, rfl, ?_⟩; have n0_ := Aside0.mk (below_step (by repeat (first | (with_reducible first | exact HB.out | apply below_alloc | apply pw_below_drewN | apply below_drew1) | exact HB.out)) hb); clear HB; have HB := n0_; clear n0_; (try clear hb); (try clear hb2); (try clear hk); (try clear hi)))
  go_loopg [3, 4] k (fun kq v3 v4 w' => ∃ (x3_1 : ByteArray) (x4_1 : Int), v3 = .string x3_1 ∧ v4 = .int .i64 x4_1 ∧ Aside0 (stolelaw2_RefPlain.l0 kq a0 x3_1 x4_1 = some r) ∧ Aside0 (kq ≤ k) ∧ Aside0 (Below w.heap.size w w'))
  case atStart => exact ⟨((⟨#[]⟩ : ByteArray)), (0), (by first | rfl | (simp; done) | (simp [*]; done)), (by first | rfl | (simp; done) | (simp [*]; done)), H', ⟨Nat.le_refl _⟩, ⟨by repeat (first | (with_reducible first | exact HB.out | apply below_alloc | apply pw_below_drewN | apply below_drew1) | exact HB.out)⟩⟩
  case round =>
   clear H'
   try clear c1
   try clear p2
   try clear c3
   obtain ⟨x3_1, x4_1, rfl, rfl, HA, HK1, HB⟩ := hrel
   cases gk with
   | zero => exact absurd HA.out (by simp [stolelaw2_RefPlain.l0])
   | succ k1 =>
    have H := HA.out
    clear HA
    simp only [stolelaw2_RefPlain.l0] at H
    have HC5 := Aside0.mk H
    clear H
    go_upto_region 5 with (fail)
    go_cut [14] (fun v14 wc => ∃ (kq : Nat) (x14_4 : Bool), v14 = .bool x14_4 ∧ Aside0 (stolelaw2_RefPlain.j1 kq a0 x3_1 x4_1 x14_4 = some r) ∧ Aside0 (kq ≤ k1) ∧ Aside0 (Below w.heap.size w wc))
    case first =>
     have H := HC5.out
     clear HC5
     by_cases c6 : x4_1 < (a0.size : Int)
     ·rw [if_pos c6] at H
      have c6b0 : decide (x4_1 < (a0.size : Int)) = true := decide_eq_true c6
      clear c6
      (first | rw [c6b0] | (simp only [i64_w, i32_w]; rw [c6b0]) | skip)
      have H' := Aside0.mk H
      clear H
      go_wp2
      go_meet
      case rel => exact ⟨_, (decide (x4_1 < 500)), (by first | rfl | (simp; done) | (simp [*]; done)), H', ⟨by have := HK1.out; first | omega | exact Nat.le_refl _⟩, ⟨by repeat (first | (with_reducible first | exact HB.out | apply below_alloc | apply pw_below_drewN | apply below_drew1) | exact HB.out)⟩⟩
     ·rw [if_neg c6] at H
      have c6b0 : decide (x4_1 < (a0.size : Int)) = false := decide_eq_false c6
      clear c6
      (first | rw [c6b0] | (simp only [i64_w, i32_w]; rw [c6b0]) | skip)
      have H' := Aside0.mk H
      clear H
      go_wp2
      go_meet
      case rel => exact ⟨_, (false), (by first | rfl | (simp; done) | (simp [*]; done)), H', ⟨by have := HK1.out; first | omega | exact Nat.le_refl _⟩, ⟨by repeat (first | (with_reducible first | exact HB.out | apply below_alloc | apply pw_below_drewN | apply below_drew1) | exact HB.out)⟩⟩
    case rest =>
     clear HC5
     try clear c1
     try clear p2
     try clear c3
     try clear c6
     try clear c6b0
     try clear p2
     obtain ⟨kq, x14_4, rfl, HA, HJ4, HB⟩ := hcut
     cases kq with
     | zero => exact absurd HA.out (by simp [stolelaw2_RefPlain.j1])
     | succ kj4 =>
      have H := HA.out
      clear HA
      simp only [stolelaw2_RefPlain.j1] at H
      by_cases c7 : x14_4 = true
      ·subst c7
       have H1 : (if 0 ≤ x4_1 then (if x4_1 < (a0.size : Int) then (if (bt a0 x4_1) = 59 then (stolelaw2_RefPlain.l0 kj4 a0 x3_1 (wrap64 (x4_1 + 1))) else (if x4_1 ≤ (wrap64 (x4_1 + 1)) then (if (wrap64 (x4_1 + 1)) ≤ (a0.size : Int) then (if x3_1.size + (a0.extract (x4_1 : Int).toNat ((wrap64 (x4_1 + 1)) : Int).toNat).size ≤ 9223372036854775807 then (stolelaw2_RefPlain.l0 kj4 a0 (x3_1 ++ (a0.extract (x4_1 : Int).toNat ((wrap64 (x4_1 + 1)) : Int).toNat)) (wrap64 (x4_1 + 1))) else (none)) else (none)) else (none))) else (none)) else (none)) = some r := by rw [if_pos rfl] at H; exact H
       clear H
       have H := H1
       clear H1
       by_cases c8 : 0 ≤ x4_1
       ·rw [if_pos c8] at H
        have c8b0 : decide (0 ≤ x4_1) = true := decide_eq_true c8
        clear c8
        by_cases c9 : x4_1 < (a0.size : Int)
        ·rw [if_pos c9] at H
         have c9b0 : decide (x4_1 < (a0.size : Int)) = true := decide_eq_true c9
         clear c9
         by_cases c11 : (bt a0 x4_1) = 59
         ·rw [if_pos c11] at H
          have c11b0 : ((bt a0 x4_1) == 59) = true := beq_iff_eq.mpr c11
          have c11b1 : ((bt a0 x4_1) != 59) = false := bne_eq_false_iff_eq.mpr c11
          clear c11
          have H' := Aside0.mk H
          clear H
          have p10 : 0 ≤ (x4_1 : Int) := of_decide_eq_true (by first | (with_reducible assumption) | assumption)
          have q10 : x4_1 < (a0.size : Int) := of_decide_eq_true (by first | (with_reducible assumption) | assumption)
          have hx10 := bt_at a0 x4_1
          replace p10 := eq_true p10
          replace q10 := eq_true q10
          go_wp2
          go_roundg kj4
          case measure => have := HK1.out; have := HJ4.out; omega
          case rel => exact ⟨(x3_1), (wrap64 (x4_1 + 1)), (by first | rfl | (simp; done) | (simp [*]; done)), (by first | rfl | (simp; done) | (simp [*]; done)), H', ⟨by have := HK1.out; have := HJ4.out; omega⟩, ⟨by repeat (first | (with_reducible first | exact HB.out | apply below_alloc | apply pw_below_drewN | apply below_drew1) | exact HB.out)⟩⟩
         ·rw [if_neg c11] at H
          have c11b0 : ((bt a0 x4_1) == 59) = false := beq_eq_false_iff_ne.mpr c11
          have c11b1 : ((bt a0 x4_1) != 59) = true := bne_iff_ne.mpr c11
          have c12b0 := eq_true (of_decide_eq_true (by first | (with_reducible assumption) | assumption) : 0 ≤ x4_1)
          by_cases c13 : x4_1 ≤ (wrap64 (x4_1 + 1))
          ·rw [if_pos c13] at H
           have c13b0 := eq_true c13
           have c13b1 : decide (x4_1 ≤ (wrap64 (x4_1 + 1))) = true := decide_eq_true c13
           by_cases c14 : (wrap64 (x4_1 + 1)) ≤ (a0.size : Int)
           ·rw [if_pos c14] at H
            have c14b0 := eq_true c14
            have c14b1 : decide ((wrap64 (x4_1 + 1)) ≤ (a0.size : Int)) = true := decide_eq_true c14
            by_cases c15 : x3_1.size + (a0.extract (x4_1 : Int).toNat ((wrap64 (x4_1 + 1)) : Int).toNat).size ≤ 9223372036854775807
            ·rw [if_pos c15] at H
             have c15b0 := eq_true c15
             have c15b1 : decide (x3_1.size + (a0.extract (x4_1 : Int).toNat ((wrap64 (x4_1 + 1)) : Int).toNat).size ≤ 9223372036854775807) = true := decide_eq_true c15
             try have c15b2 : (9223372036854775807 < x3_1.size + (a0.extract (x4_1 : Int).toNat ((wrap64 (x4_1 + 1)) : Int).toNat).size) = False := eq_false (Nat.not_lt.2 c15)
             have H' := Aside0.mk H
             clear H
             have p10 : 0 ≤ (x4_1 : Int) := of_decide_eq_true (by first | (with_reducible assumption) | assumption)
             have q10 : x4_1 < (a0.size : Int) := of_decide_eq_true (by first | (with_reducible assumption) | assumption)
             have hx10 := bt_at a0 x4_1
             replace p10 := eq_true p10
             replace q10 := eq_true q10
             go_wp2
             go_roundg kj4
             case measure => have := HK1.out; have := HJ4.out; omega
             case rel => exact ⟨(x3_1 ++ (a0.extract (x4_1 : Int).toNat ((wrap64 (x4_1 + 1)) : Int).toNat)), (wrap64 (x4_1 + 1)), (by first | rfl | (simp; done) | (simp [*]; done)), (by first | rfl | (simp; done) | (simp [*]; done)), H', ⟨by have := HK1.out; have := HJ4.out; omega⟩, ⟨by repeat (first | (with_reducible first | exact HB.out | apply below_alloc | apply pw_below_drewN | apply below_drew1) | exact HB.out)⟩⟩
            ·rw [if_neg c15] at H
             exact absurd H (by simp)
           ·rw [if_neg c14] at H
            exact absurd H (by simp)
          ·rw [if_neg c13] at H
           exact absurd H (by simp)
        ·rw [if_neg c9] at H
         exact absurd H (by simp)
       ·rw [if_neg c8] at H
        exact absurd H (by simp)
      ·replace c7 := Bool.eq_false_iff.mpr c7
       subst c7
       have H1 : ((refs_Decode.f x3_1).bind fun t260 => (some (t260.toList == x3_1.toList))) = some r := by rw [if_neg (show ¬ (false = true) by decide)] at H; exact H
       clear H
       have H := H1
       clear H1
       replace H := Option.bind_eq_some_iff.mp H
       obtain ⟨t260, A160, H⟩ := H
       replace H : (some (t260.toList == x3_1.toList)) = some r := H
       have A16 := Aside0.mk A160
       clear A160
       obtain rfl := Option.some.inj H
       go_wp2_with (first | ((with_reducible refine gate_callee (f := 11) rfl ?_); refine goesL_ (some 29) rfl rfl Tryd.func11 (by kernel_rfl) rfl #[.string x3_1] rfl (by (try simp only [List.map_toArray, List.map_cons, List.map_nil]); first | done | rfl | (simp only [List.length_drop, List.length_take]; rfl)) ?_; (with_reducible refine (refs_Decode.calls x3_1 t260 _ A16.out).mono ?_); rintro e w17 ⟨rfl, hb⟩; refine ⟨_, rfl, ?_⟩; have n0_ := Aside0.mk (below_step (by repeat (first | (with_reducible first | exact HB.out | apply below_alloc | apply pw_below_drewN | apply below_drew1) | exact HB.out)) hb); clear HB; have HB := n0_; clear n0_; (try clear hb); (try clear hb2); (try clear hk); (try clear hi)))
       go_ret
       exact ⟨by first | rfl | (simp [errW_none, errW_some] <;> rfl) | (simp [*, errW_none, errW_some] <;> rfl) | (rw [ne_nil_not]; rfl), by repeat (first | (with_reducible first | exact HB.out | apply below_alloc | apply pw_below_drewN | apply below_drew1) | exact HB.out)⟩
 ·replace c3 := Bool.eq_false_iff.mpr c3
  subst c3
  have H1 : (some false) = some r := by rw [if_neg (show ¬ (false = true) by decide)] at H; exact H
  clear H
  have H := H1
  clear H1
  obtain rfl := Option.some.inj H
  go_enter Tryd.func7, Tryd.ntmps7
  go_wp2_with (first | ((with_reducible refine gate_callee (f := 13) rfl ?_); refine goesL_ (some 5) rfl rfl Tryd.func13 (by kernel_rfl) rfl #[] rfl (by (try simp only [List.map_toArray, List.map_cons, List.map_nil]); first | done | rfl | (simp only [List.length_drop, List.length_take]; rfl)) ?_; (with_reducible refine (stolelaw2_awake.calls  false _ (tabs_below HT.out (by repeat (first | (with_reducible first | exact HB.out | apply below_alloc | apply pw_below_drewN | apply below_drew1) | exact HB.out))) A2.out).mono ?_); rintro e w18 ⟨rfl, hb⟩; refine ⟨_, rfl, ?_⟩; have n0_ := Aside0.mk (below_step (by repeat (first | (with_reducible first | exact HB.out | apply below_alloc | apply pw_below_drewN | apply below_drew1) | exact HB.out)) hb); clear HB; have HB := n0_; clear n0_; (try clear hb); (try clear hb2); (try clear hk); (try clear hi)))
  go_ret
  exact ⟨by first | rfl | (simp [errW_none, errW_some] <;> rfl) | (simp [*, errW_none, errW_some] <;> rfl) | (rw [ne_nil_not]; rfl), by repeat (first | (with_reducible first | exact HB.out | apply below_alloc | apply pw_below_drewN | apply below_drew1) | exact HB.out)⟩

/-- THE ONE PURE STATEMENT of stolelaw2_RefPlain: yours. -/
def stolelaw2_RefPlain.Pure : Prop := ∀ (a0 : ByteArray), a0.size ≤ 140737488351232 → ∃ k, stolelaw2_RefPlain.f k a0 = some true
theorem stolelaw2_RefPlain.walk (P : stolelaw2_RefPlain.Pure) (a0 : ByteArray) (w : World) (hT : Tabs w) (w0 : a0.size ≤ 140737488351232) :
  Calls Tryd.prog 7 #[.string a0] w fun e w' => e = .returned (.bool true) ∧ Below w.heap.size w w' := by
 obtain ⟨k, h⟩ := P a0 w0
 refine (stolelaw2_RefPlain.calls k a0 true w hT h).mono ?_
 rintro e w' ⟨rfl, hd⟩
 exact ⟨rfl, hd⟩

/-! ### stolelaw2_RefSafe: function 8 -/
def stolelaw2_RefSafe.f (k : Nat) (a0 : ByteArray) (a1 : ByteArray) : Option (Bool) := (stolelaw2_awake.f).bind fun t261 => (if t261 = true then ((refs_Encode.f a0).bind fun t262 => ((refs_Encode.f t262).bind fun t263 => ((refs_Decode.f t263).bind fun t264 => ((refs_Decode.f t264).bind fun t265 => ((stoleref1_Norm.f k a0).bind fun t266 => (if t265.toList = t266.toList then ((refs_Encode.f a0).bind fun t267 => (if t267.size + a1.size ≤ 9223372036854775807 then ((refs_Decode.f (t267 ++ a1)).bind fun t268 => ((stoleref1_Norm.f k a0).bind fun t269 => ((refs_Decode.f a1).bind fun t270 => (if t269.size + t270.size ≤ 9223372036854775807 then (if t268.toList = (t269 ++ t270).toList then ((stolelaw0_Num.f 0).bind fun t271 => (some (t271 == 0))) else (some false)) else (none))))) else (none))) else (some false))))))) else (some false))
theorem stolelaw2_RefSafe.mono : ∀ a0 a1 k, LeO (stolelaw2_RefSafe.f k a0 a1) (stolelaw2_RefSafe.f (k + 1) a0 a1) := by
 intro a0 a1 k
 unfold stolelaw2_RefSafe.f
 repeat' first
   | (with_reducible exact stoleref1_Norm.mono _ _)
   | (with_reducible exact LeO.refl _)
   | (with_reducible exact LeO.none _)
   | (with_reducible refine LeO.ite ?_ ?_)
   | (with_reducible refine LeO.bind ?_ (fun _ => ?_))
   | exact stoleref1_Norm.mono _ _
   | exact LeO.none _
   | refine LeO.ite ?_ ?_
   | refine LeO.bind ?_ (fun _ => ?_)
set_option maxHeartbeats 8000000 in
set_option maxRecDepth 100000 in
theorem stolelaw2_RefSafe.calls (k : Nat) (a0 : ByteArray) (a1 : ByteArray) (r : Bool) (w : World) (hT : Tabs w) (h : stolelaw2_RefSafe.f k a0 a1 = some r) :
  Calls Tryd.prog 8 #[.string a0, .string a1] w fun e w' => e = .returned (.bool r) ∧ Below w.heap.size w w' := by
 have HT := Aside0.mk hT
 clear hT
 have HB := Aside0.mk (Below.refl w.heap.size w)
 have H : ((stolelaw2_awake.f).bind fun t261 => (if t261 = true then ((refs_Encode.f a0).bind fun t262 => ((refs_Encode.f t262).bind fun t263 => ((refs_Decode.f t263).bind fun t264 => ((refs_Decode.f t264).bind fun t265 => ((stoleref1_Norm.f k a0).bind fun t266 => (if t265.toList = t266.toList then ((refs_Encode.f a0).bind fun t267 => (if t267.size + a1.size ≤ 9223372036854775807 then ((refs_Decode.f (t267 ++ a1)).bind fun t268 => ((stoleref1_Norm.f k a0).bind fun t269 => ((refs_Decode.f a1).bind fun t270 => (if t269.size + t270.size ≤ 9223372036854775807 then (if t268.toList = (t269 ++ t270).toList then ((stolelaw0_Num.f 0).bind fun t271 => (some (t271 == 0))) else (some false)) else (none))))) else (none))) else (some false))))))) else (some false))) = some r := h
 clear h
 replace H := Option.bind_eq_some_iff.mp H
 obtain ⟨t261, A30, H⟩ := H
 replace H : (if t261 = true then ((refs_Encode.f a0).bind fun t262 => ((refs_Encode.f t262).bind fun t263 => ((refs_Decode.f t263).bind fun t264 => ((refs_Decode.f t264).bind fun t265 => ((stoleref1_Norm.f k a0).bind fun t266 => (if t265.toList = t266.toList then ((refs_Encode.f a0).bind fun t267 => (if t267.size + a1.size ≤ 9223372036854775807 then ((refs_Decode.f (t267 ++ a1)).bind fun t268 => ((stoleref1_Norm.f k a0).bind fun t269 => ((refs_Decode.f a1).bind fun t270 => (if t269.size + t270.size ≤ 9223372036854775807 then (if t268.toList = (t269 ++ t270).toList then ((stolelaw0_Num.f 0).bind fun t271 => (some (t271 == 0))) else (some false)) else (none))))) else (none))) else (some false))))))) else (some false)) = some r := H
 have A3 := Aside0.mk A30
 clear A30
 by_cases c4 : t261 = true
 ·subst c4
  have H1 : ((refs_Encode.f a0).bind fun t262 => ((refs_Encode.f t262).bind fun t263 => ((refs_Decode.f t263).bind fun t264 => ((refs_Decode.f t264).bind fun t265 => ((stoleref1_Norm.f k a0).bind fun t266 => (if t265.toList = t266.toList then ((refs_Encode.f a0).bind fun t267 => (if t267.size + a1.size ≤ 9223372036854775807 then ((refs_Decode.f (t267 ++ a1)).bind fun t268 => ((stoleref1_Norm.f k a0).bind fun t269 => ((refs_Decode.f a1).bind fun t270 => (if t269.size + t270.size ≤ 9223372036854775807 then (if t268.toList = (t269 ++ t270).toList then ((stolelaw0_Num.f 0).bind fun t271 => (some (t271 == 0))) else (some false)) else (none))))) else (none))) else (some false))))))) = some r := by rw [if_pos rfl] at H; exact H
  clear H
  have H := H1
  clear H1
  replace H := Option.bind_eq_some_iff.mp H
  obtain ⟨t262, A50, H⟩ := H
  replace H : ((refs_Encode.f t262).bind fun t263 => ((refs_Decode.f t263).bind fun t264 => ((refs_Decode.f t264).bind fun t265 => ((stoleref1_Norm.f k a0).bind fun t266 => (if t265.toList = t266.toList then ((refs_Encode.f a0).bind fun t267 => (if t267.size + a1.size ≤ 9223372036854775807 then ((refs_Decode.f (t267 ++ a1)).bind fun t268 => ((stoleref1_Norm.f k a0).bind fun t269 => ((refs_Decode.f a1).bind fun t270 => (if t269.size + t270.size ≤ 9223372036854775807 then (if t268.toList = (t269 ++ t270).toList then ((stolelaw0_Num.f 0).bind fun t271 => (some (t271 == 0))) else (some false)) else (none))))) else (none))) else (some false)))))) = some r := H
  have A5 := Aside0.mk A50
  clear A50
  replace H := Option.bind_eq_some_iff.mp H
  obtain ⟨t263, A60, H⟩ := H
  replace H : ((refs_Decode.f t263).bind fun t264 => ((refs_Decode.f t264).bind fun t265 => ((stoleref1_Norm.f k a0).bind fun t266 => (if t265.toList = t266.toList then ((refs_Encode.f a0).bind fun t267 => (if t267.size + a1.size ≤ 9223372036854775807 then ((refs_Decode.f (t267 ++ a1)).bind fun t268 => ((stoleref1_Norm.f k a0).bind fun t269 => ((refs_Decode.f a1).bind fun t270 => (if t269.size + t270.size ≤ 9223372036854775807 then (if t268.toList = (t269 ++ t270).toList then ((stolelaw0_Num.f 0).bind fun t271 => (some (t271 == 0))) else (some false)) else (none))))) else (none))) else (some false))))) = some r := H
  have A6 := Aside0.mk A60
  clear A60
  replace H := Option.bind_eq_some_iff.mp H
  obtain ⟨t264, A70, H⟩ := H
  replace H : ((refs_Decode.f t264).bind fun t265 => ((stoleref1_Norm.f k a0).bind fun t266 => (if t265.toList = t266.toList then ((refs_Encode.f a0).bind fun t267 => (if t267.size + a1.size ≤ 9223372036854775807 then ((refs_Decode.f (t267 ++ a1)).bind fun t268 => ((stoleref1_Norm.f k a0).bind fun t269 => ((refs_Decode.f a1).bind fun t270 => (if t269.size + t270.size ≤ 9223372036854775807 then (if t268.toList = (t269 ++ t270).toList then ((stolelaw0_Num.f 0).bind fun t271 => (some (t271 == 0))) else (some false)) else (none))))) else (none))) else (some false)))) = some r := H
  have A7 := Aside0.mk A70
  clear A70
  replace H := Option.bind_eq_some_iff.mp H
  obtain ⟨t265, A80, H⟩ := H
  replace H : ((stoleref1_Norm.f k a0).bind fun t266 => (if t265.toList = t266.toList then ((refs_Encode.f a0).bind fun t267 => (if t267.size + a1.size ≤ 9223372036854775807 then ((refs_Decode.f (t267 ++ a1)).bind fun t268 => ((stoleref1_Norm.f k a0).bind fun t269 => ((refs_Decode.f a1).bind fun t270 => (if t269.size + t270.size ≤ 9223372036854775807 then (if t268.toList = (t269 ++ t270).toList then ((stolelaw0_Num.f 0).bind fun t271 => (some (t271 == 0))) else (some false)) else (none))))) else (none))) else (some false))) = some r := H
  have A8 := Aside0.mk A80
  clear A80
  replace H := Option.bind_eq_some_iff.mp H
  obtain ⟨t266, A90, H⟩ := H
  replace H : (if t265.toList = t266.toList then ((refs_Encode.f a0).bind fun t267 => (if t267.size + a1.size ≤ 9223372036854775807 then ((refs_Decode.f (t267 ++ a1)).bind fun t268 => ((stoleref1_Norm.f k a0).bind fun t269 => ((refs_Decode.f a1).bind fun t270 => (if t269.size + t270.size ≤ 9223372036854775807 then (if t268.toList = (t269 ++ t270).toList then ((stolelaw0_Num.f 0).bind fun t271 => (some (t271 == 0))) else (some false)) else (none))))) else (none))) else (some false)) = some r := H
  have A9 := Aside0.mk A90
  clear A90
  by_cases c10 : t265.toList = t266.toList
  ·rw [if_pos c10] at H
   have c10b0 : (t265.toList == t266.toList) = true := beq_iff_eq.mpr c10
   have c10b1 : (t265.toList != t266.toList) = false := bne_eq_false_iff_eq.mpr c10
   clear c10
   replace H := Option.bind_eq_some_iff.mp H
   obtain ⟨t267, A110, H⟩ := H
   obtain rfl : t262 = t267 := Option.some.inj (A5.out.symm.trans A110)
   replace H : (if t262.size + a1.size ≤ 9223372036854775807 then ((refs_Decode.f (t262 ++ a1)).bind fun t268 => ((stoleref1_Norm.f k a0).bind fun t269 => ((refs_Decode.f a1).bind fun t270 => (if t269.size + t270.size ≤ 9223372036854775807 then (if t268.toList = (t269 ++ t270).toList then ((stolelaw0_Num.f 0).bind fun t271 => (some (t271 == 0))) else (some false)) else (none))))) else (none)) = some r := H
   have A11 := Aside0.mk A110
   clear A110
   by_cases c12 : t262.size + a1.size ≤ 9223372036854775807
   ·rw [if_pos c12] at H
    have c12b0 := eq_true c12
    have c12b1 : decide (t262.size + a1.size ≤ 9223372036854775807) = true := decide_eq_true c12
    try have c12b2 : (9223372036854775807 < t262.size + a1.size) = False := eq_false (Nat.not_lt.2 c12)
    replace H := Option.bind_eq_some_iff.mp H
    obtain ⟨t268, A130, H⟩ := H
    replace H : ((stoleref1_Norm.f k a0).bind fun t269 => ((refs_Decode.f a1).bind fun t270 => (if t269.size + t270.size ≤ 9223372036854775807 then (if t268.toList = (t269 ++ t270).toList then ((stolelaw0_Num.f 0).bind fun t271 => (some (t271 == 0))) else (some false)) else (none)))) = some r := H
    have A13 := Aside0.mk A130
    clear A130
    replace H := Option.bind_eq_some_iff.mp H
    obtain ⟨t269, A140, H⟩ := H
    obtain rfl : t266 = t269 := Option.some.inj (A9.out.symm.trans A140)
    replace H : ((refs_Decode.f a1).bind fun t270 => (if t266.size + t270.size ≤ 9223372036854775807 then (if t268.toList = (t266 ++ t270).toList then ((stolelaw0_Num.f 0).bind fun t271 => (some (t271 == 0))) else (some false)) else (none))) = some r := H
    have A14 := Aside0.mk A140
    clear A140
    replace H := Option.bind_eq_some_iff.mp H
    obtain ⟨t270, A150, H⟩ := H
    replace H : (if t266.size + t270.size ≤ 9223372036854775807 then (if t268.toList = (t266 ++ t270).toList then ((stolelaw0_Num.f 0).bind fun t271 => (some (t271 == 0))) else (some false)) else (none)) = some r := H
    have A15 := Aside0.mk A150
    clear A150
    by_cases c16 : t266.size + t270.size ≤ 9223372036854775807
    ·rw [if_pos c16] at H
     have c16b0 := eq_true c16
     have c16b1 : decide (t266.size + t270.size ≤ 9223372036854775807) = true := decide_eq_true c16
     try have c16b2 : (9223372036854775807 < t266.size + t270.size) = False := eq_false (Nat.not_lt.2 c16)
     by_cases c17 : t268.toList = (t266 ++ t270).toList
     ·rw [if_pos c17] at H
      have c17b0 : (t268.toList == (t266 ++ t270).toList) = true := beq_iff_eq.mpr c17
      have c17b1 : (t268.toList != (t266 ++ t270).toList) = false := bne_eq_false_iff_eq.mpr c17
      clear c17
      replace H := Option.bind_eq_some_iff.mp H
      obtain ⟨t271, A180, H⟩ := H
      replace H : (some (t271 == 0)) = some r := H
      have A18 := Aside0.mk A180
      clear A180
      obtain rfl := Option.some.inj H
      go_enter Tryd.func8, Tryd.ntmps8
      go_wp2_with (first | ((with_reducible refine gate_callee (f := 13) rfl ?_); refine goesL_ (some 7) rfl rfl Tryd.func13 (by kernel_rfl) rfl #[] rfl (by (try simp only [List.map_toArray, List.map_cons, List.map_nil]); first | done | rfl | (simp only [List.length_drop, List.length_take]; rfl)) ?_; (with_reducible refine (stolelaw2_awake.calls  true _ (tabs_below HT.out (by repeat (first | (with_reducible first | exact HB.out | apply below_alloc | apply pw_below_drewN | apply below_drew1) | exact HB.out))) A3.out).mono ?_); rintro e w19 ⟨rfl, hb⟩; refine ⟨_, rfl, ?_⟩; have n0_ := Aside0.mk (below_step (by repeat (first | (with_reducible first | exact HB.out | apply below_alloc | apply pw_below_drewN | apply below_drew1) | exact HB.out)) hb); clear HB; have HB := n0_; clear n0_; (try clear hb); (try clear hb2); (try clear hk); (try clear hi)) | ((with_reducible refine gate_callee (f := 9) rfl ?_); refine goesL_ (some 10) rfl rfl Tryd.func9 (by kernel_rfl) rfl #[.string a0] rfl (by (try simp only [List.map_toArray, List.map_cons, List.map_nil]); first | done | rfl | (simp only [List.length_drop, List.length_take]; rfl)) ?_; (with_reducible refine (refs_Encode.calls a0 t262 _ (tabs_below HT.out (by repeat (first | (with_reducible first | exact HB.out | apply below_alloc | apply pw_below_drewN | apply below_drew1) | exact HB.out))) A5.out).mono ?_); rintro e w20 ⟨rfl, hb⟩; refine ⟨_, rfl, ?_⟩; have n0_ := Aside0.mk (below_step (by repeat (first | (with_reducible first | exact HB.out | apply below_alloc | apply pw_below_drewN | apply below_drew1) | exact HB.out)) hb); clear HB; have HB := n0_; clear n0_; (try clear hb); (try clear hb2); (try clear hk); (try clear hi)) | ((with_reducible refine gate_callee (f := 9) rfl ?_); refine goesL_ (some 11) rfl rfl Tryd.func9 (by kernel_rfl) rfl #[.string t262] rfl (by (try simp only [List.map_toArray, List.map_cons, List.map_nil]); first | done | rfl | (simp only [List.length_drop, List.length_take]; rfl)) ?_; (with_reducible refine (refs_Encode.calls t262 t263 _ (tabs_below HT.out (by repeat (first | (with_reducible first | exact HB.out | apply below_alloc | apply pw_below_drewN | apply below_drew1) | exact HB.out))) A6.out).mono ?_); rintro e w21 ⟨rfl, hb⟩; refine ⟨_, rfl, ?_⟩; have n0_ := Aside0.mk (below_step (by repeat (first | (with_reducible first | exact HB.out | apply below_alloc | apply pw_below_drewN | apply below_drew1) | exact HB.out)) hb); clear HB; have HB := n0_; clear n0_; (try clear hb); (try clear hb2); (try clear hk); (try clear hi)) | ((with_reducible refine gate_callee (f := 11) rfl ?_); refine goesL_ (some 13) rfl rfl Tryd.func11 (by kernel_rfl) rfl #[.string t263] rfl (by (try simp only [List.map_toArray, List.map_cons, List.map_nil]); first | done | rfl | (simp only [List.length_drop, List.length_take]; rfl)) ?_; (with_reducible refine (refs_Decode.calls t263 t264 _ A7.out).mono ?_); rintro e w22 ⟨rfl, hb⟩; refine ⟨_, rfl, ?_⟩; have n0_ := Aside0.mk (below_step (by repeat (first | (with_reducible first | exact HB.out | apply below_alloc | apply pw_below_drewN | apply below_drew1) | exact HB.out)) hb); clear HB; have HB := n0_; clear n0_; (try clear hb); (try clear hb2); (try clear hk); (try clear hi)) | ((with_reducible refine gate_callee (f := 11) rfl ?_); refine goesL_ (some 14) rfl rfl Tryd.func11 (by kernel_rfl) rfl #[.string t264] rfl (by (try simp only [List.map_toArray, List.map_cons, List.map_nil]); first | done | rfl | (simp only [List.length_drop, List.length_take]; rfl)) ?_; (with_reducible refine (refs_Decode.calls t264 t265 _ A8.out).mono ?_); rintro e w23 ⟨rfl, hb⟩; refine ⟨_, rfl, ?_⟩; have n0_ := Aside0.mk (below_step (by repeat (first | (with_reducible first | exact HB.out | apply below_alloc | apply pw_below_drewN | apply below_drew1) | exact HB.out)) hb); clear HB; have HB := n0_; clear n0_; (try clear hb); (try clear hb2); (try clear hk); (try clear hi)) | ((with_reducible refine gate_callee (f := 14) rfl ?_); refine goesL_ (some 17) rfl rfl Tryd.func14 (by kernel_rfl) rfl #[.string a0] rfl (by (try simp only [List.map_toArray, List.map_cons, List.map_nil]); first | done | rfl | (simp only [List.length_drop, List.length_take]; rfl)) ?_; (with_reducible refine (stoleref1_Norm.calls k a0 t266 _ A9.out).mono ?_); rintro e w24 ⟨rfl, hb⟩; refine ⟨_, rfl, ?_⟩; have n0_ := Aside0.mk (below_step (by repeat (first | (with_reducible first | exact HB.out | apply below_alloc | apply pw_below_drewN | apply below_drew1) | exact HB.out)) hb); clear HB; have HB := n0_; clear n0_; (try clear hb); (try clear hb2); (try clear hk); (try clear hi)) | (go_at_call 9; (with_reducible refine (refs_Encode.calls a0 t262 _ (tabs_below HT.out (by repeat (first | (with_reducible first | exact HB.out | apply below_alloc | apply pw_below_drewN | apply below_drew1) | exact HB.out))) A11.out).mono ?_); rintro e w25 ⟨rfl, hb⟩; have n0_ := Aside0.mk (below_step (by repeat (first | (with_reducible first | exact HB.out | apply below_alloc | apply pw_below_drewN | apply below_drew1) | exact HB.out)) hb); clear HB; have HB := n0_; clear n0_; (try clear hb); (try clear hb2); (try clear hk); (try clear hi)) | (go_at_call 11; (with_reducible refine (refs_Decode.calls (t262 ++ a1) t268 _ A13.out).mono ?_); rintro e w26 ⟨rfl, hb⟩; have n0_ := Aside0.mk (below_step (by repeat (first | (with_reducible first | exact HB.out | apply below_alloc | apply pw_below_drewN | apply below_drew1) | exact HB.out)) hb); clear HB; have HB := n0_; clear n0_; (try clear hb); (try clear hb2); (try clear hk); (try clear hi)) | (go_at_call 14; (with_reducible refine (stoleref1_Norm.calls k a0 t266 _ A14.out).mono ?_); rintro e w27 ⟨rfl, hb⟩; have n0_ := Aside0.mk (below_step (by repeat (first | (with_reducible first | exact HB.out | apply below_alloc | apply pw_below_drewN | apply below_drew1) | exact HB.out)) hb); clear HB; have HB := n0_; clear n0_; (try clear hb); (try clear hb2); (try clear hk); (try clear hi)) | (go_at_call 11; (with_reducible refine (refs_Decode.calls a1 t270 _ A15.out).mono ?_); rintro e w28 ⟨rfl, hb⟩; have n0_ := Aside0.mk (below_step (by repeat (first | (with_reducible first | exact HB.out | apply below_alloc | apply pw_below_drewN | apply below_drew1) | exact HB.out)) hb); clear HB; have HB := n0_; clear n0_; (try clear hb); (try clear hb2); (try clear hk); (try clear hi)) | (go_at_call 17; (with_reducible refine (stolelaw0_Num.calls 0 t271 _ A18.out).mono ?_); rintro e w' ⟨rfl, ⟨nd, rfl⟩⟩))
      go_ret
      exact ⟨by first | rfl | (simp [errW_none, errW_some] <;> rfl) | (simp [*, errW_none, errW_some] <;> rfl) | (rw [ne_nil_not]; rfl), by repeat (first | (with_reducible first | exact HB.out | apply below_alloc | apply pw_below_drewN | apply below_drew1) | exact HB.out)⟩
     ·rw [if_neg c17] at H
      have c17b0 : (t268.toList == (t266 ++ t270).toList) = false := beq_eq_false_iff_ne.mpr c17
      have c17b1 : (t268.toList != (t266 ++ t270).toList) = true := bne_iff_ne.mpr c17
      obtain rfl := Option.some.inj H
      go_enter Tryd.func8, Tryd.ntmps8
      go_wp2_with (first | ((with_reducible refine gate_callee (f := 13) rfl ?_); refine goesL_ (some 7) rfl rfl Tryd.func13 (by kernel_rfl) rfl #[] rfl (by (try simp only [List.map_toArray, List.map_cons, List.map_nil]); first | done | rfl | (simp only [List.length_drop, List.length_take]; rfl)) ?_; (with_reducible refine (stolelaw2_awake.calls  true _ (tabs_below HT.out (by repeat (first | (with_reducible first | exact HB.out | apply below_alloc | apply pw_below_drewN | apply below_drew1) | exact HB.out))) A3.out).mono ?_); rintro e w29 ⟨rfl, hb⟩; refine ⟨_, rfl, ?_⟩; have n0_ := Aside0.mk (below_step (by repeat (first | (with_reducible first | exact HB.out | apply below_alloc | apply pw_below_drewN | apply below_drew1) | exact HB.out)) hb); clear HB; have HB := n0_; clear n0_; (try clear hb); (try clear hb2); (try clear hk); (try clear hi)) | ((with_reducible refine gate_callee (f := 9) rfl ?_); refine goesL_ (some 10) rfl rfl Tryd.func9 (by kernel_rfl) rfl #[.string a0] rfl (by (try simp only [List.map_toArray, List.map_cons, List.map_nil]); first | done | rfl | (simp only [List.length_drop, List.length_take]; rfl)) ?_; (with_reducible refine (refs_Encode.calls a0 t262 _ (tabs_below HT.out (by repeat (first | (with_reducible first | exact HB.out | apply below_alloc | apply pw_below_drewN | apply below_drew1) | exact HB.out))) A5.out).mono ?_); rintro e w30 ⟨rfl, hb⟩; refine ⟨_, rfl, ?_⟩; have n0_ := Aside0.mk (below_step (by repeat (first | (with_reducible first | exact HB.out | apply below_alloc | apply pw_below_drewN | apply below_drew1) | exact HB.out)) hb); clear HB; have HB := n0_; clear n0_; (try clear hb); (try clear hb2); (try clear hk); (try clear hi)) | ((with_reducible refine gate_callee (f := 9) rfl ?_); refine goesL_ (some 11) rfl rfl Tryd.func9 (by kernel_rfl) rfl #[.string t262] rfl (by (try simp only [List.map_toArray, List.map_cons, List.map_nil]); first | done | rfl | (simp only [List.length_drop, List.length_take]; rfl)) ?_; (with_reducible refine (refs_Encode.calls t262 t263 _ (tabs_below HT.out (by repeat (first | (with_reducible first | exact HB.out | apply below_alloc | apply pw_below_drewN | apply below_drew1) | exact HB.out))) A6.out).mono ?_); rintro e w31 ⟨rfl, hb⟩; refine ⟨_, rfl, ?_⟩; have n0_ := Aside0.mk (below_step (by repeat (first | (with_reducible first | exact HB.out | apply below_alloc | apply pw_below_drewN | apply below_drew1) | exact HB.out)) hb); clear HB; have HB := n0_; clear n0_; (try clear hb); (try clear hb2); (try clear hk); (try clear hi)) | ((with_reducible refine gate_callee (f := 11) rfl ?_); refine goesL_ (some 13) rfl rfl Tryd.func11 (by kernel_rfl) rfl #[.string t263] rfl (by (try simp only [List.map_toArray, List.map_cons, List.map_nil]); first | done | rfl | (simp only [List.length_drop, List.length_take]; rfl)) ?_; (with_reducible refine (refs_Decode.calls t263 t264 _ A7.out).mono ?_); rintro e w32 ⟨rfl, hb⟩; refine ⟨_, rfl, ?_⟩; have n0_ := Aside0.mk (below_step (by repeat (first | (with_reducible first | exact HB.out | apply below_alloc | apply pw_below_drewN | apply below_drew1) | exact HB.out)) hb); clear HB; have HB := n0_; clear n0_; (try clear hb); (try clear hb2); (try clear hk); (try clear hi)) | ((with_reducible refine gate_callee (f := 11) rfl ?_); refine goesL_ (some 14) rfl rfl Tryd.func11 (by kernel_rfl) rfl #[.string t264] rfl (by (try simp only [List.map_toArray, List.map_cons, List.map_nil]); first | done | rfl | (simp only [List.length_drop, List.length_take]; rfl)) ?_; (with_reducible refine (refs_Decode.calls t264 t265 _ A8.out).mono ?_); rintro e w33 ⟨rfl, hb⟩; refine ⟨_, rfl, ?_⟩; have n0_ := Aside0.mk (below_step (by repeat (first | (with_reducible first | exact HB.out | apply below_alloc | apply pw_below_drewN | apply below_drew1) | exact HB.out)) hb); clear HB; have HB := n0_; clear n0_; (try clear hb); (try clear hb2); (try clear hk); (try clear hi)) | ((with_reducible refine gate_callee (f := 14) rfl ?_); refine goesL_ (some 17) rfl rfl Tryd.func14 (by kernel_rfl) rfl #[.string a0] rfl (by (try simp only [List.map_toArray, List.map_cons, List.map_nil]); first | done | rfl | (simp only [List.length_drop, List.length_take]; rfl)) ?_; (with_reducible refine (stoleref1_Norm.calls k a0 t266 _ A9.out).mono ?_); rintro e w34 ⟨rfl, hb⟩; refine ⟨_, rfl, ?_⟩; have n0_ := Aside0.mk (below_step (by repeat (first | (with_reducible first | exact HB.out | apply below_alloc | apply pw_below_drewN | apply below_drew1) | exact HB.out)) hb); clear HB; have HB := n0_; clear n0_; (try clear hb); (try clear hb2); (try clear hk); (try clear hi)) | (go_at_call 9; (with_reducible refine (refs_Encode.calls a0 t262 _ (tabs_below HT.out (by repeat (first | (with_reducible first | exact HB.out | apply below_alloc | apply pw_below_drewN | apply below_drew1) | exact HB.out))) A11.out).mono ?_); rintro e w35 ⟨rfl, hb⟩; have n0_ := Aside0.mk (below_step (by repeat (first | (with_reducible first | exact HB.out | apply below_alloc | apply pw_below_drewN | apply below_drew1) | exact HB.out)) hb); clear HB; have HB := n0_; clear n0_; (try clear hb); (try clear hb2); (try clear hk); (try clear hi)) | (go_at_call 11; (with_reducible refine (refs_Decode.calls (t262 ++ a1) t268 _ A13.out).mono ?_); rintro e w36 ⟨rfl, hb⟩; have n0_ := Aside0.mk (below_step (by repeat (first | (with_reducible first | exact HB.out | apply below_alloc | apply pw_below_drewN | apply below_drew1) | exact HB.out)) hb); clear HB; have HB := n0_; clear n0_; (try clear hb); (try clear hb2); (try clear hk); (try clear hi)) | (go_at_call 14; (with_reducible refine (stoleref1_Norm.calls k a0 t266 _ A14.out).mono ?_); rintro e w37 ⟨rfl, hb⟩; have n0_ := Aside0.mk (below_step (by repeat (first | (with_reducible first | exact HB.out | apply below_alloc | apply pw_below_drewN | apply below_drew1) | exact HB.out)) hb); clear HB; have HB := n0_; clear n0_; (try clear hb); (try clear hb2); (try clear hk); (try clear hi)) | (go_at_call 11; (with_reducible refine (refs_Decode.calls a1 t270 _ A15.out).mono ?_); rintro e w38 ⟨rfl, hb⟩; have n0_ := Aside0.mk (below_step (by repeat (first | (with_reducible first | exact HB.out | apply below_alloc | apply pw_below_drewN | apply below_drew1) | exact HB.out)) hb); clear HB; have HB := n0_; clear n0_; (try clear hb); (try clear hb2); (try clear hk); (try clear hi)))
      go_ret
      exact ⟨by first | rfl | (simp [errW_none, errW_some] <;> rfl) | (simp [*, errW_none, errW_some] <;> rfl) | (rw [ne_nil_not]; rfl), by repeat (first | (with_reducible first | exact HB.out | apply below_alloc | apply pw_below_drewN | apply below_drew1) | exact HB.out)⟩
    ·rw [if_neg c16] at H
     exact absurd H (by simp)
   ·rw [if_neg c12] at H
    exact absurd H (by simp)
  ·rw [if_neg c10] at H
   have c10b0 : (t265.toList == t266.toList) = false := beq_eq_false_iff_ne.mpr c10
   have c10b1 : (t265.toList != t266.toList) = true := bne_iff_ne.mpr c10
   obtain rfl := Option.some.inj H
   go_enter Tryd.func8, Tryd.ntmps8
   go_wp2_with (first | ((with_reducible refine gate_callee (f := 13) rfl ?_); refine goesL_ (some 7) rfl rfl Tryd.func13 (by kernel_rfl) rfl #[] rfl (by (try simp only [List.map_toArray, List.map_cons, List.map_nil]); first | done | rfl | (simp only [List.length_drop, List.length_take]; rfl)) ?_; (with_reducible refine (stolelaw2_awake.calls  true _ (tabs_below HT.out (by repeat (first | (with_reducible first | exact HB.out | apply below_alloc | apply pw_below_drewN | apply below_drew1) | exact HB.out))) A3.out).mono ?_); rintro e w39 ⟨rfl, hb⟩; refine ⟨_, rfl, ?_⟩; have n0_ := Aside0.mk (below_step (by repeat (first | (with_reducible first | exact HB.out | apply below_alloc | apply pw_below_drewN | apply below_drew1) | exact HB.out)) hb); clear HB; have HB := n0_; clear n0_; (try clear hb); (try clear hb2); (try clear hk); (try clear hi)) | ((with_reducible refine gate_callee (f := 9) rfl ?_); refine goesL_ (some 10) rfl rfl Tryd.func9 (by kernel_rfl) rfl #[.string a0] rfl (by (try simp only [List.map_toArray, List.map_cons, List.map_nil]); first | done | rfl | (simp only [List.length_drop, List.length_take]; rfl)) ?_; (with_reducible refine (refs_Encode.calls a0 t262 _ (tabs_below HT.out (by repeat (first | (with_reducible first | exact HB.out | apply below_alloc | apply pw_below_drewN | apply below_drew1) | exact HB.out))) A5.out).mono ?_); rintro e w40 ⟨rfl, hb⟩; refine ⟨_, rfl, ?_⟩; have n0_ := Aside0.mk (below_step (by repeat (first | (with_reducible first | exact HB.out | apply below_alloc | apply pw_below_drewN | apply below_drew1) | exact HB.out)) hb); clear HB; have HB := n0_; clear n0_; (try clear hb); (try clear hb2); (try clear hk); (try clear hi)) | ((with_reducible refine gate_callee (f := 9) rfl ?_); refine goesL_ (some 11) rfl rfl Tryd.func9 (by kernel_rfl) rfl #[.string t262] rfl (by (try simp only [List.map_toArray, List.map_cons, List.map_nil]); first | done | rfl | (simp only [List.length_drop, List.length_take]; rfl)) ?_; (with_reducible refine (refs_Encode.calls t262 t263 _ (tabs_below HT.out (by repeat (first | (with_reducible first | exact HB.out | apply below_alloc | apply pw_below_drewN | apply below_drew1) | exact HB.out))) A6.out).mono ?_); rintro e w41 ⟨rfl, hb⟩; refine ⟨_, rfl, ?_⟩; have n0_ := Aside0.mk (below_step (by repeat (first | (with_reducible first | exact HB.out | apply below_alloc | apply pw_below_drewN | apply below_drew1) | exact HB.out)) hb); clear HB; have HB := n0_; clear n0_; (try clear hb); (try clear hb2); (try clear hk); (try clear hi)) | ((with_reducible refine gate_callee (f := 11) rfl ?_); refine goesL_ (some 13) rfl rfl Tryd.func11 (by kernel_rfl) rfl #[.string t263] rfl (by (try simp only [List.map_toArray, List.map_cons, List.map_nil]); first | done | rfl | (simp only [List.length_drop, List.length_take]; rfl)) ?_; (with_reducible refine (refs_Decode.calls t263 t264 _ A7.out).mono ?_); rintro e w42 ⟨rfl, hb⟩; refine ⟨_, rfl, ?_⟩; have n0_ := Aside0.mk (below_step (by repeat (first | (with_reducible first | exact HB.out | apply below_alloc | apply pw_below_drewN | apply below_drew1) | exact HB.out)) hb); clear HB; have HB := n0_; clear n0_; (try clear hb); (try clear hb2); (try clear hk); (try clear hi)) | ((with_reducible refine gate_callee (f := 11) rfl ?_); refine goesL_ (some 14) rfl rfl Tryd.func11 (by kernel_rfl) rfl #[.string t264] rfl (by (try simp only [List.map_toArray, List.map_cons, List.map_nil]); first | done | rfl | (simp only [List.length_drop, List.length_take]; rfl)) ?_; (with_reducible refine (refs_Decode.calls t264 t265 _ A8.out).mono ?_); rintro e w43 ⟨rfl, hb⟩; refine ⟨_, rfl, ?_⟩; have n0_ := Aside0.mk (below_step (by repeat (first | (with_reducible first | exact HB.out | apply below_alloc | apply pw_below_drewN | apply below_drew1) | exact HB.out)) hb); clear HB; have HB := n0_; clear n0_; (try clear hb); (try clear hb2); (try clear hk); (try clear hi)) | ((with_reducible refine gate_callee (f := 14) rfl ?_); refine goesL_ (some 17) rfl rfl Tryd.func14 (by kernel_rfl) rfl #[.string a0] rfl (by (try simp only [List.map_toArray, List.map_cons, List.map_nil]); first | done | rfl | (simp only [List.length_drop, List.length_take]; rfl)) ?_; (with_reducible refine (stoleref1_Norm.calls k a0 t266 _ A9.out).mono ?_); rintro e w44 ⟨rfl, hb⟩; refine ⟨_, rfl, ?_⟩; have n0_ := Aside0.mk (below_step (by repeat (first | (with_reducible first | exact HB.out | apply below_alloc | apply pw_below_drewN | apply below_drew1) | exact HB.out)) hb); clear HB; have HB := n0_; clear n0_; (try clear hb); (try clear hb2); (try clear hk); (try clear hi)))
   go_ret
   exact ⟨by first | rfl | (simp [errW_none, errW_some] <;> rfl) | (simp [*, errW_none, errW_some] <;> rfl) | (rw [ne_nil_not]; rfl), by repeat (first | (with_reducible first | exact HB.out | apply below_alloc | apply pw_below_drewN | apply below_drew1) | exact HB.out)⟩
 ·replace c4 := Bool.eq_false_iff.mpr c4
  subst c4
  have H1 : (some false) = some r := by rw [if_neg (show ¬ (false = true) by decide)] at H; exact H
  clear H
  have H := H1
  clear H1
  obtain rfl := Option.some.inj H
  go_enter Tryd.func8, Tryd.ntmps8
  go_wp2_with (first | ((with_reducible refine gate_callee (f := 13) rfl ?_); refine goesL_ (some 7) rfl rfl Tryd.func13 (by kernel_rfl) rfl #[] rfl (by (try simp only [List.map_toArray, List.map_cons, List.map_nil]); first | done | rfl | (simp only [List.length_drop, List.length_take]; rfl)) ?_; (with_reducible refine (stolelaw2_awake.calls  false _ (tabs_below HT.out (by repeat (first | (with_reducible first | exact HB.out | apply below_alloc | apply pw_below_drewN | apply below_drew1) | exact HB.out))) A3.out).mono ?_); rintro e w45 ⟨rfl, hb⟩; refine ⟨_, rfl, ?_⟩; have n0_ := Aside0.mk (below_step (by repeat (first | (with_reducible first | exact HB.out | apply below_alloc | apply pw_below_drewN | apply below_drew1) | exact HB.out)) hb); clear HB; have HB := n0_; clear n0_; (try clear hb); (try clear hb2); (try clear hk); (try clear hi)))
  go_ret
  exact ⟨by first | rfl | (simp [errW_none, errW_some] <;> rfl) | (simp [*, errW_none, errW_some] <;> rfl) | (rw [ne_nil_not]; rfl), by repeat (first | (with_reducible first | exact HB.out | apply below_alloc | apply pw_below_drewN | apply below_drew1) | exact HB.out)⟩

/-- THE ONE PURE STATEMENT of stolelaw2_RefSafe: yours. -/
def stolelaw2_RefSafe.Pure : Prop := ∀ (a0 : ByteArray) (a1 : ByteArray), a0.size ≤ 140737488351232 → a1.size ≤ 140737488351232 → ∃ k, stolelaw2_RefSafe.f k a0 a1 = some true
theorem stolelaw2_RefSafe.walk (P : stolelaw2_RefSafe.Pure) (a0 : ByteArray) (a1 : ByteArray) (w : World) (hT : Tabs w) (w0 : a0.size ≤ 140737488351232) (w1 : a1.size ≤ 140737488351232) :
  Calls Tryd.prog 8 #[.string a0, .string a1] w fun e w' => e = .returned (.bool true) ∧ Below w.heap.size w w' := by
 obtain ⟨k, h⟩ := P a0 a1 w0 w1
 refine (stolelaw2_RefSafe.calls k a0 a1 true w hT h).mono ?_
 rintro e w' ⟨rfl, hd⟩
 exact ⟨rfl, hd⟩

end Go.Proofs.YtfabijpafbhdbaaDoor.XR
