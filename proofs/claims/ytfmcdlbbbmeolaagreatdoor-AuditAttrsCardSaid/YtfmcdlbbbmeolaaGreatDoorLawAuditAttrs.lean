/- The law stole/stolelaw24.AuditAttrs returns true at every input of its types, and its arguments read behind the call as before. The listed package-level variables are tied to the program's text. No further condition. -/
import Derived.Test.YtfmcdlbbbmeolaaGreatDoorU0
import Derived.Test.YtfmcdlbbbmeolaaGreatDoorU19
import Derived.Test.YtfmcdlbbbmeolaaGreatDoorU18
import Derived.Test.YtfmcdlbbbmeolaaGreatDoorU16
import Derived.Test.YtfmcdlbbbmeolaaGreatDoorCards
import Derived.Test.YtfmcdlbbbmeolaaGreatDoorTie
import Derived.WalkKit
import Derived.ProofKit
import Derived.OpenShut
import Derived.ShutString
import Derived.ChangeOld
import Derived.Below
import Derived.SizedLaws
import Derived.Deep.DeepHandedRow
import Derived.LaidMore
import Derived.Lay
import Derived.SevenTiedAt
section
namespace Go.Proofs.YtfmcdlbbbmeolaaGreatDoor.XA
open Go.RowKit XQ ExtP XP XK YtfmcdlbbbmeolaaGreatDoorW.PrintWords YtfmcdlbbbmeolaaGreatDoorW.PrintLast YtfmcdlbbbmeolaaGreatDoorW.PrintMore
attribute [local go_sem] max2_int min2_int max_two min_two max_three min_three max_four min_four   -- for this text's walks alone
set_option linter.unusedVariables false
set_option linter.unusedSimpArgs false
def sAw.f (k : Nat)  : Option (Bool) := (audit_Alike.f (⟨#[60, 112, 62, 120, 60, 47, 112, 62]⟩ : ByteArray) (⟨#[60, 112, 62, 121, 38, 108, 116, 59, 60, 47, 112, 62]⟩ : ByteArray)).bind fun bt101 => ((audit_Alike.f (⟨#[60, 112, 62]⟩ : ByteArray) (⟨#[60, 112, 32, 97, 62]⟩ : ByteArray)).bind fun bt103 => ((audit_Schemes.f k (⟨#[60, 97, 32, 104, 114, 101, 102, 61, 39, 72, 84, 84, 80, 58, 120, 39, 62, 60, 105, 109, 103, 32, 115, 114, 99, 61, 106, 97, 118, 97, 115, 99, 114, 105, 112, 116, 58, 49, 32, 116, 105, 116, 108, 101, 61, 39, 97, 58, 98, 39, 62]⟩ : ByteArray)).bind fun bt105 => (if 65537 ≤ 281474976710656 then ((audit_Schemes.f k (strOfNums (List.replicate 65537 0))).bind fun bt112 => (if bt101.1 = true then ((stolelaw0_Num.f bt101.2).bind fun t116 => (if t116 = 0 then (if bt103.1 = true then (some false) else ((stolelaw0_Num.f bt103.2).bind fun t117 => (if t117 = 0 then ((stolelaw0_SameTexts.f k bt105.1 (([(⟨#[104, 116, 116, 112]⟩ : ByteArray), (⟨#[106, 97, 118, 97, 115, 99, 114, 105, 112, 116]⟩ : ByteArray)] : List ByteArray))).bind fun t121 => (if t121 = true then ((stolelaw0_Num.f bt105.2).bind fun t122 => (if t122 = 0 then ((stolelaw0_Num.f bt112.2).bind fun t123 => (some (t123 == 500))) else (some false))) else (some false))) else (some false)))) else (some false))) else (some false))) else (none))))
theorem sAw.mono : ∀ k, LeO (sAw.f k ) (sAw.f (k + 1) ) := by
 intro  k
 unfold sAw.f
 repeat' first
   | (with_reducible exact audit_Schemes.mono _ _)
   | (with_reducible exact stolelaw0_SameTexts.mono _ _ _)
   | (with_reducible exact LeO.refl _)
   | (with_reducible exact LeO.none _)
   | (with_reducible refine LeO.ite ?_ ?_)
   | (with_reducible refine LeO.bind ?_ (fun _ => ?_))
   | exact audit_Schemes.mono _ _
   | exact stolelaw0_SameTexts.mono _ _ _
   | exact LeO.none _
   | refine LeO.ite ?_ ?_
   | refine LeO.bind ?_ (fun _ => ?_)
set_option maxHeartbeats 8000000 in
set_option maxRecDepth 100000 in
theorem sAw.calls (k : Nat)  (r : Bool) (w : World) (hT : Tabs w) (h : sAw.f k  = some r) (hr : r = true) :
  Calls Tryz.prog 41 #[] w fun e w' => e = .returned (.bool r) ∧ Below w.heap.size w w' := by
 have HT := Aside0.mk hT
 clear hT
 have HB := Aside0.mk (Below.refl w.heap.size w)
 have H : ((audit_Alike.f (⟨#[60, 112, 62, 120, 60, 47, 112, 62]⟩ : ByteArray) (⟨#[60, 112, 62, 121, 38, 108, 116, 59, 60, 47, 112, 62]⟩ : ByteArray)).bind fun bt101 => ((audit_Alike.f (⟨#[60, 112, 62]⟩ : ByteArray) (⟨#[60, 112, 32, 97, 62]⟩ : ByteArray)).bind fun bt103 => ((audit_Schemes.f k (⟨#[60, 97, 32, 104, 114, 101, 102, 61, 39, 72, 84, 84, 80, 58, 120, 39, 62, 60, 105, 109, 103, 32, 115, 114, 99, 61, 106, 97, 118, 97, 115, 99, 114, 105, 112, 116, 58, 49, 32, 116, 105, 116, 108, 101, 61, 39, 97, 58, 98, 39, 62]⟩ : ByteArray)).bind fun bt105 => (if 65537 ≤ 281474976710656 then ((audit_Schemes.f k (strOfNums (List.replicate 65537 0))).bind fun bt112 => (if bt101.1 = true then ((stolelaw0_Num.f bt101.2).bind fun t116 => (if t116 = 0 then (if bt103.1 = true then (some false) else ((stolelaw0_Num.f bt103.2).bind fun t117 => (if t117 = 0 then ((stolelaw0_SameTexts.f k bt105.1 (([(⟨#[104, 116, 116, 112]⟩ : ByteArray), (⟨#[106, 97, 118, 97, 115, 99, 114, 105, 112, 116]⟩ : ByteArray)] : List ByteArray))).bind fun t121 => (if t121 = true then ((stolelaw0_Num.f bt105.2).bind fun t122 => (if t122 = 0 then ((stolelaw0_Num.f bt112.2).bind fun t123 => (some (t123 == 500))) else (some false))) else (some false))) else (some false)))) else (some false))) else (some false))) else (none))))) = some r := h
 clear h
 replace H := Option.bind_eq_some_iff.mp H
 obtain ⟨⟨t101, t102⟩, A10, H⟩ := H
 replace H : ((audit_Alike.f (⟨#[60, 112, 62]⟩ : ByteArray) (⟨#[60, 112, 32, 97, 62]⟩ : ByteArray)).bind fun bt103 => ((audit_Schemes.f k (⟨#[60, 97, 32, 104, 114, 101, 102, 61, 39, 72, 84, 84, 80, 58, 120, 39, 62, 60, 105, 109, 103, 32, 115, 114, 99, 61, 106, 97, 118, 97, 115, 99, 114, 105, 112, 116, 58, 49, 32, 116, 105, 116, 108, 101, 61, 39, 97, 58, 98, 39, 62]⟩ : ByteArray)).bind fun bt105 => (if 65537 ≤ 281474976710656 then ((audit_Schemes.f k (strOfNums (List.replicate 65537 0))).bind fun bt112 => (if t101 = true then ((stolelaw0_Num.f t102).bind fun t116 => (if t116 = 0 then (if bt103.1 = true then (some false) else ((stolelaw0_Num.f bt103.2).bind fun t117 => (if t117 = 0 then ((stolelaw0_SameTexts.f k bt105.1 (([(⟨#[104, 116, 116, 112]⟩ : ByteArray), (⟨#[106, 97, 118, 97, 115, 99, 114, 105, 112, 116]⟩ : ByteArray)] : List ByteArray))).bind fun t121 => (if t121 = true then ((stolelaw0_Num.f bt105.2).bind fun t122 => (if t122 = 0 then ((stolelaw0_Num.f bt112.2).bind fun t123 => (some (t123 == 500))) else (some false))) else (some false))) else (some false)))) else (some false))) else (some false))) else (none)))) = some r := H
 have A1 := Aside0.mk A10
 clear A10
 replace H := Option.bind_eq_some_iff.mp H
 obtain ⟨⟨t103, t104⟩, A20, H⟩ := H
 replace H : ((audit_Schemes.f k (⟨#[60, 97, 32, 104, 114, 101, 102, 61, 39, 72, 84, 84, 80, 58, 120, 39, 62, 60, 105, 109, 103, 32, 115, 114, 99, 61, 106, 97, 118, 97, 115, 99, 114, 105, 112, 116, 58, 49, 32, 116, 105, 116, 108, 101, 61, 39, 97, 58, 98, 39, 62]⟩ : ByteArray)).bind fun bt105 => (if 65537 ≤ 281474976710656 then ((audit_Schemes.f k (strOfNums (List.replicate 65537 0))).bind fun bt112 => (if t101 = true then ((stolelaw0_Num.f t102).bind fun t116 => (if t116 = 0 then (if t103 = true then (some false) else ((stolelaw0_Num.f t104).bind fun t117 => (if t117 = 0 then ((stolelaw0_SameTexts.f k bt105.1 (([(⟨#[104, 116, 116, 112]⟩ : ByteArray), (⟨#[106, 97, 118, 97, 115, 99, 114, 105, 112, 116]⟩ : ByteArray)] : List ByteArray))).bind fun t121 => (if t121 = true then ((stolelaw0_Num.f bt105.2).bind fun t122 => (if t122 = 0 then ((stolelaw0_Num.f bt112.2).bind fun t123 => (some (t123 == 500))) else (some false))) else (some false))) else (some false)))) else (some false))) else (some false))) else (none))) = some r := H
 have A2 := Aside0.mk A20
 clear A20
 replace H := Option.bind_eq_some_iff.mp H
 obtain ⟨⟨t105, t106⟩, A30, H⟩ := H
 replace H : (if 65537 ≤ 281474976710656 then ((audit_Schemes.f k (strOfNums (List.replicate 65537 0))).bind fun bt112 => (if t101 = true then ((stolelaw0_Num.f t102).bind fun t116 => (if t116 = 0 then (if t103 = true then (some false) else ((stolelaw0_Num.f t104).bind fun t117 => (if t117 = 0 then ((stolelaw0_SameTexts.f k t105 (([(⟨#[104, 116, 116, 112]⟩ : ByteArray), (⟨#[106, 97, 118, 97, 115, 99, 114, 105, 112, 116]⟩ : ByteArray)] : List ByteArray))).bind fun t121 => (if t121 = true then ((stolelaw0_Num.f t106).bind fun t122 => (if t122 = 0 then ((stolelaw0_Num.f bt112.2).bind fun t123 => (some (t123 == 500))) else (some false))) else (some false))) else (some false)))) else (some false))) else (some false))) else (none)) = some r := H
 have A3 := Aside0.mk A30
 clear A30
 by_cases c4 : 65537 ≤ 281474976710656
 ·rw [if_pos c4] at H
  have c4b0 := eq_true c4
  have c4b1 : decide (65537 ≤ 281474976710656) = true := decide_eq_true c4
  clear c4
  obtain ⟨y109, hy109⟩ : ∃ y_ : List Int, y_ = (List.replicate 65537 0) := ⟨_, rfl⟩
  replace H : ((audit_Schemes.f k (strOfNums y109)).bind fun bt112 => (if t101 = true then ((stolelaw0_Num.f t102).bind fun t116 => (if t116 = 0 then (if t103 = true then (some false) else ((stolelaw0_Num.f t104).bind fun t117 => (if t117 = 0 then ((stolelaw0_SameTexts.f k t105 (([(⟨#[104, 116, 116, 112]⟩ : ByteArray), (⟨#[106, 97, 118, 97, 115, 99, 114, 105, 112, 116]⟩ : ByteArray)] : List ByteArray))).bind fun t121 => (if t121 = true then ((stolelaw0_Num.f t106).bind fun t122 => (if t122 = 0 then ((stolelaw0_Num.f bt112.2).bind fun t123 => (some (t123 == 500))) else (some false))) else (some false))) else (some false)))) else (some false))) else (some false))) = some r := by first | (rw [hy109]; with_reducible exact H) | (have H2_ := (Option.bind_some _ _).symm.trans H; rw [hy109]; with_reducible exact H2_) | (have H2_ := (Option.bind_some _ _).symm.trans H; with_reducible exact H2_) | with_reducible exact H | (rw [hy109]; exact H) | exact H
  have Ny109 := Aside0.mk hy109
  clear hy109
  replace H := Option.bind_eq_some_iff.mp H
  obtain ⟨⟨t112, t113⟩, A50, H⟩ := H
  replace H : (if t101 = true then ((stolelaw0_Num.f t102).bind fun t116 => (if t116 = 0 then (if t103 = true then (some false) else ((stolelaw0_Num.f t104).bind fun t117 => (if t117 = 0 then ((stolelaw0_SameTexts.f k t105 (([(⟨#[104, 116, 116, 112]⟩ : ByteArray), (⟨#[106, 97, 118, 97, 115, 99, 114, 105, 112, 116]⟩ : ByteArray)] : List ByteArray))).bind fun t121 => (if t121 = true then ((stolelaw0_Num.f t106).bind fun t122 => (if t122 = 0 then ((stolelaw0_Num.f t113).bind fun t123 => (some (t123 == 500))) else (some false))) else (some false))) else (some false)))) else (some false))) else (some false)) = some r := H
  have A5 := Aside0.mk A50
  clear A50
  by_cases c6 : t101 = true
  ·subst c6
   have H1 : ((stolelaw0_Num.f t102).bind fun t116 => (if t116 = 0 then (if t103 = true then (some false) else ((stolelaw0_Num.f t104).bind fun t117 => (if t117 = 0 then ((stolelaw0_SameTexts.f k t105 (([(⟨#[104, 116, 116, 112]⟩ : ByteArray), (⟨#[106, 97, 118, 97, 115, 99, 114, 105, 112, 116]⟩ : ByteArray)] : List ByteArray))).bind fun t121 => (if t121 = true then ((stolelaw0_Num.f t106).bind fun t122 => (if t122 = 0 then ((stolelaw0_Num.f t113).bind fun t123 => (some (t123 == 500))) else (some false))) else (some false))) else (some false)))) else (some false))) = some r := by rw [if_pos rfl] at H; exact H
   clear H
   have H := H1
   clear H1
   replace H := Option.bind_eq_some_iff.mp H
   obtain ⟨t116, A70, H⟩ := H
   replace H : (if t116 = 0 then (if t103 = true then (some false) else ((stolelaw0_Num.f t104).bind fun t117 => (if t117 = 0 then ((stolelaw0_SameTexts.f k t105 (([(⟨#[104, 116, 116, 112]⟩ : ByteArray), (⟨#[106, 97, 118, 97, 115, 99, 114, 105, 112, 116]⟩ : ByteArray)] : List ByteArray))).bind fun t121 => (if t121 = true then ((stolelaw0_Num.f t106).bind fun t122 => (if t122 = 0 then ((stolelaw0_Num.f t113).bind fun t123 => (some (t123 == 500))) else (some false))) else (some false))) else (some false)))) else (some false)) = some r := H
   have A7 := Aside0.mk A70
   clear A70
   by_cases c8 : t116 = 0
   ·rw [if_pos c8] at H
    have c8b0 : (t116 == 0) = true := beq_iff_eq.mpr c8
    have c8b1 : (t116 != 0) = false := bne_eq_false_iff_eq.mpr c8
    clear c8
    by_cases c9 : t103 = true
    ·subst c9
     have H1 : (some false) = some r := by rw [if_pos rfl] at H; exact H
     clear H
     have H := H1
     clear H1
     obtain rfl := Option.some.inj H
     exact absurd hr (by simp)
    ·replace c9 := Bool.eq_false_iff.mpr c9
     subst c9
     have H1 : ((stolelaw0_Num.f t104).bind fun t117 => (if t117 = 0 then ((stolelaw0_SameTexts.f k t105 (([(⟨#[104, 116, 116, 112]⟩ : ByteArray), (⟨#[106, 97, 118, 97, 115, 99, 114, 105, 112, 116]⟩ : ByteArray)] : List ByteArray))).bind fun t121 => (if t121 = true then ((stolelaw0_Num.f t106).bind fun t122 => (if t122 = 0 then ((stolelaw0_Num.f t113).bind fun t123 => (some (t123 == 500))) else (some false))) else (some false))) else (some false))) = some r := by rw [if_neg (show ¬ (false = true) by decide)] at H; exact H
     clear H
     have H := H1
     clear H1
     replace H := Option.bind_eq_some_iff.mp H
     obtain ⟨t117, A170, H⟩ := H
     replace H : (if t117 = 0 then ((stolelaw0_SameTexts.f k t105 (([(⟨#[104, 116, 116, 112]⟩ : ByteArray), (⟨#[106, 97, 118, 97, 115, 99, 114, 105, 112, 116]⟩ : ByteArray)] : List ByteArray))).bind fun t121 => (if t121 = true then ((stolelaw0_Num.f t106).bind fun t122 => (if t122 = 0 then ((stolelaw0_Num.f t113).bind fun t123 => (some (t123 == 500))) else (some false))) else (some false))) else (some false)) = some r := H
     have A17 := Aside0.mk A170
     clear A170
     by_cases c18 : t117 = 0
     ·rw [if_pos c18] at H
      have c18b0 : (t117 == 0) = true := beq_iff_eq.mpr c18
      have c18b1 : (t117 != 0) = false := bne_eq_false_iff_eq.mpr c18
      clear c18
      obtain ⟨y118, hy118⟩ : ∃ y_ : List ByteArray, y_ = (([(⟨#[104, 116, 116, 112]⟩ : ByteArray), (⟨#[106, 97, 118, 97, 115, 99, 114, 105, 112, 116]⟩ : ByteArray)] : List ByteArray)) := ⟨_, rfl⟩
      replace H : ((stolelaw0_SameTexts.f k t105 y118).bind fun t121 => (if t121 = true then ((stolelaw0_Num.f t106).bind fun t122 => (if t122 = 0 then ((stolelaw0_Num.f t113).bind fun t123 => (some (t123 == 500))) else (some false))) else (some false))) = some r := by first | (rw [hy118]; with_reducible exact H) | (have H2_ := (Option.bind_some _ _).symm.trans H; rw [hy118]; with_reducible exact H2_) | (have H2_ := (Option.bind_some _ _).symm.trans H; with_reducible exact H2_) | with_reducible exact H | (rw [hy118]; exact H) | exact H
      have Ny118 := Aside0.mk hy118
      clear hy118
      replace H := Option.bind_eq_some_iff.mp H
      obtain ⟨t121, A190, H⟩ := H
      replace H : (if t121 = true then ((stolelaw0_Num.f t106).bind fun t122 => (if t122 = 0 then ((stolelaw0_Num.f t113).bind fun t123 => (some (t123 == 500))) else (some false))) else (some false)) = some r := H
      have A19 := Aside0.mk A190
      clear A190
      by_cases c20 : t121 = true
      ·subst c20
       have H1 : ((stolelaw0_Num.f t106).bind fun t122 => (if t122 = 0 then ((stolelaw0_Num.f t113).bind fun t123 => (some (t123 == 500))) else (some false))) = some r := by rw [if_pos rfl] at H; exact H
       clear H
       have H := H1
       clear H1
       replace H := Option.bind_eq_some_iff.mp H
       obtain ⟨t122, A210, H⟩ := H
       replace H : (if t122 = 0 then ((stolelaw0_Num.f t113).bind fun t123 => (some (t123 == 500))) else (some false)) = some r := H
       have A21 := Aside0.mk A210
       clear A210
       by_cases c22 : t122 = 0
       ·rw [if_pos c22] at H
        have c22b0 : (t122 == 0) = true := beq_iff_eq.mpr c22
        have c22b1 : (t122 != 0) = false := bne_eq_false_iff_eq.mpr c22
        clear c22
        replace H := Option.bind_eq_some_iff.mp H
        obtain ⟨t123, A230, H⟩ := H
        replace H : (some (t123 == 500)) = some r := H
        have A23 := Aside0.mk A230
        clear A230
        obtain rfl := Option.some.inj H
        go_enter Tryz.func41, Tryz.ntmps41
        go_wp2_with (first | ((with_reducible refine gate_callee (f := 37) rfl ?_); refine goesL_ (some 10) rfl rfl Tryz.func37 (by kernel_rfl) rfl #[.string (⟨#[60, 112, 62, 120, 60, 47, 112, 62]⟩ : ByteArray), .string (⟨#[60, 112, 62, 121, 38, 108, 116, 59, 60, 47, 112, 62]⟩ : ByteArray)] rfl (by (try simp only [List.map_toArray, List.map_cons, List.map_nil]); first | done | rfl | (simp only [List.length_drop, List.length_take]; rfl)) ?_; (with_reducible refine (audit_Alike.calls (⟨#[60, 112, 62, 120, 60, 47, 112, 62]⟩ : ByteArray) (⟨#[60, 112, 62, 121, 38, 108, 116, 59, 60, 47, 112, 62]⟩ : ByteArray) true t102 _ (tabs_below HT.out (by repeat (first | (with_reducible first | exact HB.out | apply below_alloc | apply pw_below_drewN | apply below_drew1) | exact HB.out))) A1.out).mono ?_); rintro e w24 ⟨rfl, hb⟩; refine ⟨_, rfl, ?_⟩; have n0_ := Aside0.mk (below_step (by repeat (first | (with_reducible first | exact HB.out | apply below_alloc | apply pw_below_drewN | apply below_drew1) | exact HB.out)) hb); clear HB; have HB := n0_; clear n0_; (try clear hb); (try clear hb2); (try clear hk); (try clear hi)) | ((with_reducible refine gate_callee (f := 37) rfl ?_); refine goesL_ (some 14) rfl rfl Tryz.func37 (by kernel_rfl) rfl #[.string (⟨#[60, 112, 62]⟩ : ByteArray), .string (⟨#[60, 112, 32, 97, 62]⟩ : ByteArray)] rfl (by (try simp only [List.map_toArray, List.map_cons, List.map_nil]); first | done | rfl | (simp only [List.length_drop, List.length_take]; rfl)) ?_; (with_reducible refine (audit_Alike.calls (⟨#[60, 112, 62]⟩ : ByteArray) (⟨#[60, 112, 32, 97, 62]⟩ : ByteArray) false t104 _ (tabs_below HT.out (by repeat (first | (with_reducible first | exact HB.out | apply below_alloc | apply pw_below_drewN | apply below_drew1) | exact HB.out))) A2.out).mono ?_); rintro e w25 ⟨rfl, hb⟩; refine ⟨_, rfl, ?_⟩; have n0_ := Aside0.mk (below_step (by repeat (first | (with_reducible first | exact HB.out | apply below_alloc | apply pw_below_drewN | apply below_drew1) | exact HB.out)) hb); clear HB; have HB := n0_; clear n0_; (try clear hb); (try clear hb2); (try clear hk); (try clear hi)) | ((with_reducible refine gate_callee (f := 39) rfl ?_); refine goesL_ (some 18) rfl rfl Tryz.func39 (by kernel_rfl) rfl #[.string (⟨#[60, 97, 32, 104, 114, 101, 102, 61, 39, 72, 84, 84, 80, 58, 120, 39, 62, 60, 105, 109, 103, 32, 115, 114, 99, 61, 106, 97, 118, 97, 115, 99, 114, 105, 112, 116, 58, 49, 32, 116, 105, 116, 108, 101, 61, 39, 97, 58, 98, 39, 62]⟩ : ByteArray)] rfl (by (try simp only [List.map_toArray, List.map_cons, List.map_nil]); first | done | rfl | (simp only [List.length_drop, List.length_take]; rfl)) ?_; (with_reducible refine (audit_Schemes.calls k (⟨#[60, 97, 32, 104, 114, 101, 102, 61, 39, 72, 84, 84, 80, 58, 120, 39, 62, 60, 105, 109, 103, 32, 115, 114, 99, 61, 106, 97, 118, 97, 115, 99, 114, 105, 112, 116, 58, 49, 32, 116, 105, 116, 108, 101, 61, 39, 97, 58, 98, 39, 62]⟩ : ByteArray) t105 t106 _ (tabs_below HT.out (by repeat (first | (with_reducible first | exact HB.out | apply below_alloc | apply pw_below_drewN | apply below_drew1) | exact HB.out))) A3.out).mono ?_); rintro e w26 ⟨v107, rfl, ho0, hb⟩; refine ⟨_, rfl, ?_⟩; have n0_ := Aside0.mk (Kd.R_lower ho0 (below_size (by repeat (first | (with_reducible first | exact HB.out | apply below_alloc | apply pw_below_drewN | apply below_drew1) | exact HB.out)))); have n1_ := Aside0.mk (below_step (by repeat (first | (with_reducible first | exact HB.out | apply below_alloc | apply pw_below_drewN | apply below_drew1) | exact HB.out)) hb); clear HB; have HO108 := n0_; have HB := n1_; clear n0_ n1_; (try clear hb); (try clear hb2); (try clear hk); (try clear hi); (try clear ho0)) | ((with_reducible refine gate_dst (N := 22) rfl ?_); (try (refine gate_guard (by rfl) ?_; dsimp only)); refine Kd.R_make (Kd.int .u8) _ 5 rfl (N := 22) rfl 37 _ _ rfl 65537 rfl rfl Tryz.underlying37 (.int .u8 0) 1 info5 rfl (by decide) (by omega) 0 (ok := fun _ => True) (okp := fun _ => True) rfl (fun _ hk => hk) trivial (by omega) (by omega) (Below.refl _ _) (Nat.le_refl _) ?_; intro v110 w27 ho28 hb hg_ hnew_; clear hg_ hnew_; (first | rw [← Ny109.out] at ho28 | (simp only [Int.reduceToNat] at ho28; rw [← Ny109.out] at ho28)); have n0_ := Aside0.mk (Kd.R_below (by (with_reducible repeat (first | apply Kd.R_alloc | apply Kd.R_drewN | apply Kd.R_drew)); exact HO108.out) hb); have n1_ := Aside0.mk (Kd.R_lower ho28 (below_size (by repeat (first | (with_reducible first | exact HB.out | apply below_alloc | apply pw_below_drewN | apply below_drew1) | exact HB.out)))); have n2_ := Aside0.mk (below_step (by repeat (first | (with_reducible first | exact HB.out | apply below_alloc | apply pw_below_drewN | apply below_drew1) | exact HB.out)) hb); clear HO108; clear HB; have HO108 := n0_; have HO111 := n1_; have HB := n2_; clear n0_ n1_ n2_; clear hb ho28; have hcv29 := own_string (P := Tryz.prog) Tryz.underlying37 Tryz.underlying5 Tryz.underlying9 (Kd.own_of_R HO111.out)) | ((with_reducible refine gate_callee (f := 39) rfl ?_); refine goesL_ (some 24) rfl rfl Tryz.func39 (by kernel_rfl) rfl #[.string (strOfNums y109)] rfl (by (try simp only [List.map_toArray, List.map_cons, List.map_nil]); first | done | rfl | (simp only [List.length_drop, List.length_take]; rfl)) ?_; (with_reducible refine (audit_Schemes.calls k (strOfNums y109) t112 t113 _ (tabs_below HT.out (by repeat (first | (with_reducible first | exact HB.out | apply below_alloc | apply pw_below_drewN | apply below_drew1) | exact HB.out))) A5.out).mono ?_); rintro e w30 ⟨v114, rfl, ho0, hb⟩; refine ⟨_, rfl, ?_⟩; have n0_ := Aside0.mk (Kd.R_elder' (by (with_reducible repeat (first | apply Kd.R_alloc | apply Kd.R_drewN | apply Kd.R_drew)); exact HO108.out) (Kd.R_base ho0) hb); have n1_ := Aside0.mk (Kd.R_below (by (with_reducible repeat (first | apply Kd.R_alloc | apply Kd.R_drewN | apply Kd.R_drew)); exact HO111.out) hb); have n2_ := Aside0.mk (Kd.R_lower (Kd.R_new' ho0 (Kd.R_lt (by (with_reducible repeat (first | apply Kd.R_alloc | apply Kd.R_drewN | apply Kd.R_drew)); exact HO108.out))) (below_size (by repeat (first | (with_reducible first | exact HB.out | apply below_alloc | apply pw_below_drewN | apply below_drew1) | exact HB.out)))); have n3_ := Aside0.mk (below_step (by repeat (first | (with_reducible first | exact HB.out | apply below_alloc | apply pw_below_drewN | apply below_drew1) | exact HB.out)) hb); clear HO108; clear HO111; clear HB; have HO108 := n0_; have HO111 := n1_; have HO115 := n2_; have HB := n3_; clear n0_ n1_ n2_ n3_; (try clear hb); (try clear hb2); (try clear hk); (try clear hi); (try clear ho0)) | (go_at_call 21; (with_reducible refine (stolelaw0_Num.calls t102 t116 _ A7.out).mono ?_); rintro e w' ⟨rfl, ⟨nd, rfl⟩⟩) | (go_at_call 21; (with_reducible refine (stolelaw0_Num.calls t104 t117 _ A17.out).mono ?_); rintro e w' ⟨rfl, ⟨nd, rfl⟩⟩) | ((with_reducible refine gate_dst (N := 44) rfl ?_); (try (refine gate_guard (by rfl) ?_; dsimp only)); refine Kd.R_lit Kd.string _ 9 ?hg (N := 44) ?hd (xs := ([(⟨#[104, 116, 116, 112]⟩ : ByteArray), (⟨#[106, 97, 118, 97, 115, 99, 114, 105, 112, 116]⟩ : ByteArray)] : List ByteArray)) (inner := [.string (⟨#[104, 116, 116, 112]⟩ : ByteArray), .string (⟨#[106, 97, 118, 97, 115, 99, 114, 105, 112, 116]⟩ : ByteArray)]) (ok := fun _ => True) (okp := fun _ => True) ?hr ?hp (fun _ hk => hk) trivial (Below.refl _ _) (Nat.le_refl _) (by simp) ?_; (case hd => rfl); (case hg => rfl); (case hr => first | (go_simp; done) | (go_simp; rfl)); (case hp => exact (Reps.one (show Kd.M Kd.string _ _ _ (⟨#[104, 116, 116, 112]⟩ : ByteArray) [.string (⟨#[104, 116, 116, 112]⟩ : ByteArray)] from rfl) (Reps.one (show Kd.M Kd.string _ _ _ (⟨#[106, 97, 118, 97, 115, 99, 114, 105, 112, 116]⟩ : ByteArray) [.string (⟨#[106, 97, 118, 97, 115, 99, 114, 105, 112, 116]⟩ : ByteArray)] from rfl) (Reps.none _ _)))); intro v119 w31 ho32 hb hg_ hnew_; clear hg_ hnew_; (first | rw [← Ny118.out] at ho32 | (simp only [Int.reduceToNat] at ho32; rw [← Ny118.out] at ho32)); have n0_ := Aside0.mk (Kd.R_elder' (by (with_reducible repeat (first | apply Kd.R_alloc | apply Kd.R_drewN | apply Kd.R_drew)); exact HO108.out) (Kd.R_base ho32) hb); have n1_ := Aside0.mk (Kd.R_below (by (with_reducible repeat (first | apply Kd.R_alloc | apply Kd.R_drewN | apply Kd.R_drew)); exact HO111.out) hb); have n2_ := Aside0.mk (Kd.R_elder' (by (with_reducible repeat (first | apply Kd.R_alloc | apply Kd.R_drewN | apply Kd.R_drew)); exact HO115.out) (Kd.R_base ho32) hb); have n3_ := Aside0.mk (Kd.R_lower (Kd.R_new' (Kd.R_new' ho32 (Kd.R_lt (by (with_reducible repeat (first | apply Kd.R_alloc | apply Kd.R_drewN | apply Kd.R_drew)); exact HO108.out))) (Kd.R_lt (by (with_reducible repeat (first | apply Kd.R_alloc | apply Kd.R_drewN | apply Kd.R_drew)); exact HO115.out))) (below_size (by repeat (first | (with_reducible first | exact HB.out | apply below_alloc | apply pw_below_drewN | apply below_drew1) | exact HB.out)))); have n4_ := Aside0.mk (below_step (by repeat (first | (with_reducible first | exact HB.out | apply below_alloc | apply pw_below_drewN | apply below_drew1) | exact HB.out)) hb); clear HO108; clear HO111; clear HO115; clear HB; have HO108 := n0_; have HO111 := n1_; have HO115 := n2_; have HO120 := n3_; have HB := n4_; clear n0_ n1_ n2_ n3_ n4_; clear hb ho32; obtain ⟨Ao33, co33, eo33⟩ := Kd.R_slice HO108.out; subst eo33; obtain ⟨Ao34, co34, eo34⟩ := Kd.R_slice HO120.out; subst eo34) | (go_at_call 34; (with_reducible refine (stolelaw0_SameTexts.calls k _ _ t105 _ _ y118 true _ ?side1 ?side2 ?side3 ?side4 A19.out).mono ?_); (case side1 => repeat (first | exact (Kd.R_reads' HO108.out).2.2 | (with_reducible refine Kd.C_alloc ?_ _) | (with_reducible refine Kd.C_drewN ?_ _) | (with_reducible refine Kd.C_drew ?_))); (case side2 => exact (Kd.R_reads' HO108.out).2.1); (case side3 => repeat (first | exact (Kd.R_reads' HO120.out).2.2 | (with_reducible refine Kd.C_alloc ?_ _) | (with_reducible refine Kd.C_drewN ?_ _) | (with_reducible refine Kd.C_drew ?_))); (case side4 => exact (Kd.R_reads' HO120.out).2.1); rintro e w' ⟨rfl, ⟨nd, rfl⟩⟩) | (go_at_call 21; (with_reducible refine (stolelaw0_Num.calls t106 t122 _ A21.out).mono ?_); rintro e w' ⟨rfl, ⟨nd, rfl⟩⟩) | (go_at_call 21; (with_reducible refine (stolelaw0_Num.calls t113 t123 _ A23.out).mono ?_); rintro e w' ⟨rfl, ⟨nd, rfl⟩⟩))
        go_ret
        exact ⟨by first | rfl | (simp [errW_none, errW_some] <;> rfl) | (simp [*, errW_none, errW_some] <;> rfl), by repeat (first | (with_reducible first | exact HB.out | apply below_alloc | apply pw_below_drewN | apply below_drew1) | exact HB.out)⟩
       ·rw [if_neg c22] at H
        have c22b0 : (t122 == 0) = false := beq_eq_false_iff_ne.mpr c22
        have c22b1 : (t122 != 0) = true := bne_iff_ne.mpr c22
        obtain rfl := Option.some.inj H
        exact absurd hr (by simp)
      ·replace c20 := Bool.eq_false_iff.mpr c20
       subst c20
       have H1 : (some false) = some r := by rw [if_neg (show ¬ (false = true) by decide)] at H; exact H
       clear H
       have H := H1
       clear H1
       obtain rfl := Option.some.inj H
       exact absurd hr (by simp)
     ·rw [if_neg c18] at H
      have c18b0 : (t117 == 0) = false := beq_eq_false_iff_ne.mpr c18
      have c18b1 : (t117 != 0) = true := bne_iff_ne.mpr c18
      obtain rfl := Option.some.inj H
      exact absurd hr (by simp)
   ·rw [if_neg c8] at H
    have c8b0 : (t116 == 0) = false := beq_eq_false_iff_ne.mpr c8
    have c8b1 : (t116 != 0) = true := bne_iff_ne.mpr c8
    obtain rfl := Option.some.inj H
    exact absurd hr (by simp)
  ·replace c6 := Bool.eq_false_iff.mpr c6
   subst c6
   have H1 : (some false) = some r := by rw [if_neg (show ¬ (false = true) by decide)] at H; exact H
   clear H
   have H := H1
   clear H1
   obtain rfl := Option.some.inj H
   exact absurd hr (by simp)
 ·rw [if_neg c4] at H
  exact absurd H (by simp)
mutual
def sAA.l0 : Nat → ByteArray → Int → ByteArray → Int → Option (Bool)
 | 0, _, _, _, _ => none
 | k + 1, x0, x1, x5, x6 => if x6 < (x0.size : Int) then (sAA.j1 k x0 x1 x5 x6 (decide (x6 < 200))) else (sAA.j1 k x0 x1 x5 x6 false)
def sAA.j1 : Nat → ByteArray → Int → ByteArray → Int → Bool → Option (Bool)
 | 0, _, _, _, _, _ => none
 | k + 1, x0, x1, x5, x6, x22 => if x22 = true then (if 0 ≤ x6 then (if x6 < (x0.size : Int) then (if (bt x0 x6) = 60 then (sAA.l0 k x0 x1 x5 (wrap64 (x6 + 1))) else (if (bt x0 x6) = 62 then (sAA.l0 k x0 x1 x5 (wrap64 (x6 + 1))) else (if (bt x0 x6) = 34 then (sAA.l0 k x0 x1 x5 (wrap64 (x6 + 1))) else (if (bt x0 x6) = 39 then (sAA.l0 k x0 x1 x5 (wrap64 (x6 + 1))) else (if (bt x0 x6) = 13 then (sAA.l0 k x0 x1 x5 (wrap64 (x6 + 1))) else (if x6 ≤ (wrap64 (x6 + 1)) then (if (wrap64 (x6 + 1)) ≤ (x0.size : Int) then (if x5.size + ((x0.extract (x6 : Int).toNat ((wrap64 (x6 + 1)) : Int).toNat).size) ≤ 9223372036854775807 then (sAA.l0 k x0 x1 (x5 ++ (x0.extract (x6 : Int).toNat ((wrap64 (x6 + 1)) : Int).toNat)) (wrap64 (x6 + 1))) else (none)) else (none)) else (none))))))) else (none)) else (none)) else (if x5.size + 6 ≤ 9223372036854775807 then (if x5.size + 6 + x5.size ≤ 9223372036854775807 then (if x5.size + 6 + x5.size + 5 ≤ 9223372036854775807 then (if x5.size + 6 + x5.size + 5 + x5.size ≤ 9223372036854775807 then (if x5.size + 6 + x5.size + 5 + x5.size + 4 ≤ 9223372036854775807 then (if x5.size + 6 + x5.size + 5 + x5.size + 4 + x5.size ≤ 9223372036854775807 then (if x5.size + 6 + x5.size + 5 + x5.size + 4 + x5.size + 4 ≤ 9223372036854775807 then (if x5.size + 6 + x5.size + 5 + x5.size + 4 + x5.size + 4 + x5.size ≤ 9223372036854775807 then (if x5.size + 6 + x5.size + 5 + x5.size + 4 + x5.size + 4 + x5.size + 4 ≤ 9223372036854775807 then (if x5.size + 6 + x5.size + 5 + x5.size + 4 + x5.size + 4 + x5.size + 4 + x5.size ≤ 9223372036854775807 then ((audit_Alike.f (⟨#[60, 112, 32, 97, 61, 39, 49, 39, 62, 60, 98, 62, 120, 60, 47, 98, 62, 121, 60, 47, 112, 62, 60, 33, 99, 62]⟩ : ByteArray) ((((((((((x5 ++ (⟨#[60, 80, 32, 65, 61, 34]⟩ : ByteArray)) ++ x5) ++ (⟨#[34, 62, 60, 98, 62]⟩ : ByteArray)) ++ x5) ++ (⟨#[60, 47, 66, 62]⟩ : ByteArray)) ++ x5) ++ (⟨#[60, 47, 112, 62]⟩ : ByteArray)) ++ x5) ++ (⟨#[60, 33, 99, 62]⟩ : ByteArray)) ++ x5)).bind fun bt163 => ((some (([(⟨#[60, 112, 32, 97, 61, 39, 49, 39, 62, 60, 105, 62, 120, 60, 47, 105, 62, 121, 60, 47, 112, 62, 60, 33, 99, 62]⟩ : ByteArray), (⟨#[60, 112, 32, 97, 61, 39, 49, 39, 62, 60, 98, 62, 60, 47, 98, 62, 60, 47, 112, 62, 60, 33, 100, 62]⟩ : ByteArray), (⟨#[60, 112, 32, 97, 61, 39, 49, 39, 62, 60, 47, 112, 62, 60, 98, 62, 60, 47, 98, 62, 60, 33, 99, 62]⟩ : ByteArray), (⟨#[60, 112, 32, 98, 61, 39, 49, 39, 62, 60, 98, 62, 60, 47, 98, 62, 60, 47, 112, 62, 60, 33, 99, 62]⟩ : ByteArray), (⟨#[60, 112, 32, 97, 61, 39, 49, 39, 32, 99, 62, 60, 98, 62, 60, 47, 98, 62, 60, 47, 112, 62, 60, 33, 99, 62]⟩ : ByteArray), (⟨#[60, 112, 62, 60, 98, 62, 60, 47, 98, 62, 60, 47, 112, 62, 60, 33, 99, 62]⟩ : ByteArray), (⟨#[60, 112, 32, 97, 61, 39, 49, 39, 62, 60, 98, 62, 60, 47, 98, 62, 60, 47, 112, 62]⟩ : ByteArray), (⟨#[60, 112, 32, 97, 61, 39, 49, 39, 62, 60, 98, 62, 60, 47, 98, 62, 60, 47, 112, 62, 60, 33, 99, 62, 60, 98, 114, 62]⟩ : ByteArray), (⟨#[60, 33, 99, 62, 60, 112, 32, 97, 61, 39, 49, 39, 62, 60, 98, 62, 60, 47, 98, 62, 60, 47, 112, 62]⟩ : ByteArray)] : List ByteArray) : List ByteArray)).bind fun y165 => (if 0 ≤ (wrap64 (Int.tmod (IntKind.u64.wrap (x1)) 9)) then (if (wrap64 (Int.tmod (IntKind.u64.wrap (x1)) 9)) < (y165.length : Int) then ((audit_Alike.f (⟨#[60, 112, 32, 97, 61, 39, 49, 39, 62, 60, 98, 62, 120, 60, 47, 98, 62, 121, 60, 47, 112, 62, 60, 33, 99, 62]⟩ : ByteArray) (rdOf ByteArray.empty y165 (wrap64 (Int.tmod (IntKind.u64.wrap (x1)) 9)))).bind fun bt169 => ((stolelaw0_Num.f bt163.2).bind fun t171 => (if t171 = 0 then (if bt163.1 = true then ((stolelaw0_Num.f bt169.2).bind fun t172 => (if t172 = 0 then (some (!bt169.1)) else (some false))) else (some false)) else (some false)))) else (none)) else (none)))) else (none)) else (none)) else (none)) else (none)) else (none)) else (none)) else (none)) else (none)) else (none)) else (none))
end
def sAA.f (k : Nat) (a0 : ByteArray) (a1 : Int) : Option (Bool) := (sAw.f k).bind fun t162 => (if t162 = true then (sAA.l0 k a0 a1 (⟨#[]⟩ : ByteArray) 0) else (some false))
theorem sAA.mono_l : ∀ k, (∀ y0 y1 y2 y3, LeO (sAA.l0 k y0 y1 y2 y3) (sAA.l0 (k + 1) y0 y1 y2 y3)) ∧ (∀ y0 y1 y2 y3 y4, LeO (sAA.j1 k y0 y1 y2 y3 y4) (sAA.j1 (k + 1) y0 y1 y2 y3 y4))
 | 0 => ⟨fun _ _ _ _ r h => by simp [sAA.l0] at h, fun _ _ _ _ _ r h => by simp [sAA.j1] at h⟩
 | k + 1 => by
  obtain ⟨ih0, ih1⟩ := sAA.mono_l k
  refine ⟨?_, ?_⟩
  ·intro y0 y1 y2 y3
   unfold sAA.l0
   repeat' first
   | (with_reducible exact ih0 _ _ _ _)
   | (with_reducible exact ih1 _ _ _ _ _)
   | (with_reducible exact sAw.mono _)
   | (with_reducible exact LeO.refl _)
   | (with_reducible exact LeO.none _)
   | (with_reducible refine LeO.ite ?_ ?_)
   | (with_reducible refine LeO.bind ?_ (fun _ => ?_))
   | exact ih0 _ _ _ _
   | exact ih1 _ _ _ _ _
   | exact sAw.mono _
   | exact LeO.none _
   | refine LeO.ite ?_ ?_
   | refine LeO.bind ?_ (fun _ => ?_)
  ·intro y0 y1 y2 y3 y4
   unfold sAA.j1
   repeat' first
   | (with_reducible exact ih0 _ _ _ _)
   | (with_reducible exact ih1 _ _ _ _ _)
   | (with_reducible exact sAw.mono _)
   | (with_reducible exact LeO.refl _)
   | (with_reducible exact LeO.none _)
   | (with_reducible refine LeO.ite ?_ ?_)
   | (with_reducible refine LeO.bind ?_ (fun _ => ?_))
   | exact ih0 _ _ _ _
   | exact ih1 _ _ _ _ _
   | exact sAw.mono _
   | exact LeO.none _
   | refine LeO.ite ?_ ?_
   | refine LeO.bind ?_ (fun _ => ?_)
theorem sAA.mono : ∀ a0 a1 k, LeO (sAA.f k a0 a1) (sAA.f (k + 1) a0 a1) := by
 intro a0 a1 k
 obtain ⟨ih0, ih1⟩ := sAA.mono_l k
 unfold sAA.f
 repeat' first
   | (with_reducible exact ih0 _ _ _ _)
   | (with_reducible exact ih1 _ _ _ _ _)
   | (with_reducible exact sAw.mono _)
   | (with_reducible exact LeO.refl _)
   | (with_reducible exact LeO.none _)
   | (with_reducible refine LeO.ite ?_ ?_)
   | (with_reducible refine LeO.bind ?_ (fun _ => ?_))
   | exact ih0 _ _ _ _
   | exact ih1 _ _ _ _ _
   | exact sAw.mono _
   | exact LeO.none _
   | refine LeO.ite ?_ ?_
   | refine LeO.bind ?_ (fun _ => ?_)
set_option maxHeartbeats 8000000 in
set_option maxRecDepth 100000 in
theorem sAA.calls (k : Nat) (a0 : ByteArray) (a1 : Int) (r : Bool) (w : World) (hT : Tabs w) (h : sAA.f k a0 a1 = some r) (hr : r = true) :
  Calls Tryz.prog 11 #[.string a0, .int .i64 a1] w fun e w' => e = .returned (.bool r) ∧ Below w.heap.size w w' := by
 have HT := Aside0.mk hT
 clear hT
 have HB := Aside0.mk (Below.refl w.heap.size w)
 have H : ((sAw.f k).bind fun t162 => (if t162 = true then (sAA.l0 k a0 a1 (⟨#[]⟩ : ByteArray) 0) else (some false))) = some r := h
 clear h
 replace H := Option.bind_eq_some_iff.mp H
 obtain ⟨t162, A30, H⟩ := H
 replace H : (if t162 = true then (sAA.l0 k a0 a1 (⟨#[]⟩ : ByteArray) 0) else (some false)) = some r := H
 have A3 := Aside0.mk A30
 clear A30
 by_cases c4 : t162 = true
 ·subst c4
  have H1 : (sAA.l0 k a0 a1 (⟨#[]⟩ : ByteArray) 0) = some r := by rw [if_pos rfl] at H; exact H
  clear H
  have H := H1
  clear H1
  have H' := Aside0.mk H
  clear H
  go_enter Tryz.func11, Tryz.ntmps11
  go_wp2_with (first | ((with_reducible refine gate_callee (f := 41) rfl ?_); refine goesL_ (some 13) rfl rfl Tryz.func41 (by kernel_rfl) rfl #[] rfl (by (try simp only [List.map_toArray, List.map_cons, List.map_nil]); first | done | rfl | (simp only [List.length_drop, List.length_take]; rfl)) ?_; (with_reducible refine (sAw.calls k  true _ (tabs_below HT.out (by repeat (first | (with_reducible first | exact HB.out | apply below_alloc | apply pw_below_drewN | apply below_drew1) | exact HB.out))) A3.out rfl).mono ?_); rintro e w5 ⟨rfl, hb⟩; refine ⟨_, rfl, ?_⟩; have n0_ := Aside0.mk (below_step (by repeat (first | (with_reducible first | exact HB.out | apply below_alloc | apply pw_below_drewN | apply below_drew1) | exact HB.out)) hb); clear HB; have HB := n0_; clear n0_; (try clear hb); (try clear hb2); (try clear hk); (try clear hi)))
  go_loopg [5, 6] k (fun kq v5 v6 w' => ∃ (x5_1 : ByteArray) (x6_1 : Int), v5 = .string x5_1 ∧ v6 = .int .i64 x6_1 ∧ Aside0 (sAA.l0 kq a0 a1 x5_1 x6_1 = some r) ∧ Aside0 (kq ≤ k) ∧ Aside0 (Below w.heap.size w w'))
  case atStart => exact ⟨((⟨#[]⟩ : ByteArray)), (0), (by first | rfl | (simp; done) | (simp [*]; done)), (by first | rfl | (simp; done) | (simp [*]; done)), H', ⟨Nat.le_refl _⟩, ⟨by repeat (first | (with_reducible first | exact HB.out | apply below_alloc | apply pw_below_drewN | apply below_drew1) | exact HB.out)⟩⟩
  case round =>
   clear H'
   try clear c1
   try clear p2
   try clear c4
   obtain ⟨x5_1, x6_1, rfl, rfl, HA, HK1, HB⟩ := hrel
   cases gk with
   | zero => exact absurd HA.out (by simp [sAA.l0])
   | succ k1 =>
    have H := HA.out
    clear HA
    simp only [sAA.l0] at H
    have HC6 := Aside0.mk H
    clear H
    go_upto_region 5 with (fail)
    go_cut [22] (fun v22 wc => ∃ (kq : Nat) (x22_5 : Bool), v22 = .bool x22_5 ∧ Aside0 (sAA.j1 kq a0 a1 x5_1 x6_1 x22_5 = some r) ∧ Aside0 (kq ≤ k1) ∧ Aside0 (Below w.heap.size w wc))
    case first =>
     have H := HC6.out
     clear HC6
     by_cases c7 : x6_1 < (a0.size : Int)
     ·rw [if_pos c7] at H
      have c7b0 : decide (x6_1 < (a0.size : Int)) = true := decide_eq_true c7
      clear c7
      (first | rw [c7b0] | (simp only [i64_w, i32_w]; rw [c7b0]) | skip)
      have H' := Aside0.mk H
      clear H
      go_wp2
      go_meet
      case rel => exact ⟨_, (decide (x6_1 < 200)), (by first | rfl | (simp; done) | (simp [*]; done)), H', ⟨by have := HK1.out; first | omega | exact Nat.le_refl _⟩, ⟨by repeat (first | (with_reducible first | exact HB.out | apply below_alloc | apply pw_below_drewN | apply below_drew1) | exact HB.out)⟩⟩
     ·rw [if_neg c7] at H
      have c7b0 : decide (x6_1 < (a0.size : Int)) = false := decide_eq_false c7
      clear c7
      (first | rw [c7b0] | (simp only [i64_w, i32_w]; rw [c7b0]) | skip)
      have H' := Aside0.mk H
      clear H
      go_wp2
      go_meet
      case rel => exact ⟨_, (false), (by first | rfl | (simp; done) | (simp [*]; done)), H', ⟨by have := HK1.out; first | omega | exact Nat.le_refl _⟩, ⟨by repeat (first | (with_reducible first | exact HB.out | apply below_alloc | apply pw_below_drewN | apply below_drew1) | exact HB.out)⟩⟩
    case rest =>
     clear HC6
     try clear c1
     try clear p2
     try clear c4
     try clear c7
     try clear c7b0
     try clear p2
     obtain ⟨kq, x22_5, rfl, HA, HJ5, HB⟩ := hcut
     cases kq with
     | zero => exact absurd HA.out (by simp [sAA.j1])
     | succ kj5 =>
      have H := HA.out
      clear HA
      simp only [sAA.j1] at H
      by_cases c8 : x22_5 = true
      ·subst c8
       have H1 : (if 0 ≤ x6_1 then (if x6_1 < (a0.size : Int) then (if (bt a0 x6_1) = 60 then (sAA.l0 kj5 a0 a1 x5_1 (wrap64 (x6_1 + 1))) else (if (bt a0 x6_1) = 62 then (sAA.l0 kj5 a0 a1 x5_1 (wrap64 (x6_1 + 1))) else (if (bt a0 x6_1) = 34 then (sAA.l0 kj5 a0 a1 x5_1 (wrap64 (x6_1 + 1))) else (if (bt a0 x6_1) = 39 then (sAA.l0 kj5 a0 a1 x5_1 (wrap64 (x6_1 + 1))) else (if (bt a0 x6_1) = 13 then (sAA.l0 kj5 a0 a1 x5_1 (wrap64 (x6_1 + 1))) else (if x6_1 ≤ (wrap64 (x6_1 + 1)) then (if (wrap64 (x6_1 + 1)) ≤ (a0.size : Int) then (if x5_1.size + ((a0.extract (x6_1 : Int).toNat ((wrap64 (x6_1 + 1)) : Int).toNat).size) ≤ 9223372036854775807 then (sAA.l0 kj5 a0 a1 (x5_1 ++ (a0.extract (x6_1 : Int).toNat ((wrap64 (x6_1 + 1)) : Int).toNat)) (wrap64 (x6_1 + 1))) else (none)) else (none)) else (none))))))) else (none)) else (none)) = some r := by rw [if_pos rfl] at H; exact H
       clear H
       have H := H1
       clear H1
       by_cases c9 : 0 ≤ x6_1
       ·rw [if_pos c9] at H
        have c9b0 : decide (0 ≤ x6_1) = true := decide_eq_true c9
        clear c9
        by_cases c10 : x6_1 < (a0.size : Int)
        ·rw [if_pos c10] at H
         have c10b0 : decide (x6_1 < (a0.size : Int)) = true := decide_eq_true c10
         clear c10
         by_cases c12 : (bt a0 x6_1) = 60
         ·rw [if_pos c12] at H
          have c12b0 : ((bt a0 x6_1) == 60) = true := beq_iff_eq.mpr c12
          have c12b1 : ((bt a0 x6_1) != 60) = false := bne_eq_false_iff_eq.mpr c12
          clear c12
          have H' := Aside0.mk H
          clear H
          have p11 : 0 ≤ (x6_1 : Int) := of_decide_eq_true (by first | (with_reducible assumption) | assumption)
          have q11 : x6_1 < (a0.size : Int) := of_decide_eq_true (by first | (with_reducible assumption) | assumption)
          have hx11 := bt_at a0 x6_1
          replace p11 := eq_true p11
          replace q11 := eq_true q11
          go_wp2
          go_roundg kj5
          case measure => have := HK1.out; have := HJ5.out; omega
          case rel => exact ⟨(x5_1), (wrap64 (x6_1 + 1)), (by first | rfl | (simp; done) | (simp [*]; done)), (by first | rfl | (simp; done) | (simp [*]; done)), H', ⟨by have := HK1.out; have := HJ5.out; omega⟩, ⟨by repeat (first | (with_reducible first | exact HB.out | apply below_alloc | apply pw_below_drewN | apply below_drew1) | exact HB.out)⟩⟩
         ·rw [if_neg c12] at H
          have c12b0 : ((bt a0 x6_1) == 60) = false := beq_eq_false_iff_ne.mpr c12
          have c12b1 : ((bt a0 x6_1) != 60) = true := bne_iff_ne.mpr c12
          by_cases c14 : (bt a0 x6_1) = 62
          ·rw [if_pos c14] at H
           have c14b0 : ((bt a0 x6_1) == 62) = true := beq_iff_eq.mpr c14
           have c14b1 : ((bt a0 x6_1) != 62) = false := bne_eq_false_iff_eq.mpr c14
           clear c14
           have H' := Aside0.mk H
           clear H
           have p11 : 0 ≤ (x6_1 : Int) := of_decide_eq_true (by first | (with_reducible assumption) | assumption)
           have q11 : x6_1 < (a0.size : Int) := of_decide_eq_true (by first | (with_reducible assumption) | assumption)
           have hx11 := bt_at a0 x6_1
           replace p11 := eq_true p11
           replace q11 := eq_true q11
           have p13 : 0 ≤ (x6_1 : Int) := of_decide_eq_true (by first | (with_reducible assumption) | assumption)
           have q13 : x6_1 < (a0.size : Int) := of_decide_eq_true (by first | (with_reducible assumption) | assumption)
           have hx13 := bt_at a0 x6_1
           replace p13 := eq_true p13
           replace q13 := eq_true q13
           go_wp2
           go_roundg kj5
           case measure => have := HK1.out; have := HJ5.out; omega
           case rel => exact ⟨(x5_1), (wrap64 (x6_1 + 1)), (by first | rfl | (simp; done) | (simp [*]; done)), (by first | rfl | (simp; done) | (simp [*]; done)), H', ⟨by have := HK1.out; have := HJ5.out; omega⟩, ⟨by repeat (first | (with_reducible first | exact HB.out | apply below_alloc | apply pw_below_drewN | apply below_drew1) | exact HB.out)⟩⟩
          ·rw [if_neg c14] at H
           have c14b0 : ((bt a0 x6_1) == 62) = false := beq_eq_false_iff_ne.mpr c14
           have c14b1 : ((bt a0 x6_1) != 62) = true := bne_iff_ne.mpr c14
           by_cases c16 : (bt a0 x6_1) = 34
           ·rw [if_pos c16] at H
            have c16b0 : ((bt a0 x6_1) == 34) = true := beq_iff_eq.mpr c16
            have c16b1 : ((bt a0 x6_1) != 34) = false := bne_eq_false_iff_eq.mpr c16
            clear c16
            have H' := Aside0.mk H
            clear H
            have p11 : 0 ≤ (x6_1 : Int) := of_decide_eq_true (by first | (with_reducible assumption) | assumption)
            have q11 : x6_1 < (a0.size : Int) := of_decide_eq_true (by first | (with_reducible assumption) | assumption)
            have hx11 := bt_at a0 x6_1
            replace p11 := eq_true p11
            replace q11 := eq_true q11
            have p13 : 0 ≤ (x6_1 : Int) := of_decide_eq_true (by first | (with_reducible assumption) | assumption)
            have q13 : x6_1 < (a0.size : Int) := of_decide_eq_true (by first | (with_reducible assumption) | assumption)
            have hx13 := bt_at a0 x6_1
            replace p13 := eq_true p13
            replace q13 := eq_true q13
            have p15 : 0 ≤ (x6_1 : Int) := of_decide_eq_true (by first | (with_reducible assumption) | assumption)
            have q15 : x6_1 < (a0.size : Int) := of_decide_eq_true (by first | (with_reducible assumption) | assumption)
            have hx15 := bt_at a0 x6_1
            replace p15 := eq_true p15
            replace q15 := eq_true q15
            go_wp2
            go_roundg kj5
            case measure => have := HK1.out; have := HJ5.out; omega
            case rel => exact ⟨(x5_1), (wrap64 (x6_1 + 1)), (by first | rfl | (simp; done) | (simp [*]; done)), (by first | rfl | (simp; done) | (simp [*]; done)), H', ⟨by have := HK1.out; have := HJ5.out; omega⟩, ⟨by repeat (first | (with_reducible first | exact HB.out | apply below_alloc | apply pw_below_drewN | apply below_drew1) | exact HB.out)⟩⟩
           ·rw [if_neg c16] at H
            have c16b0 : ((bt a0 x6_1) == 34) = false := beq_eq_false_iff_ne.mpr c16
            have c16b1 : ((bt a0 x6_1) != 34) = true := bne_iff_ne.mpr c16
            by_cases c18 : (bt a0 x6_1) = 39
            ·rw [if_pos c18] at H
             have c18b0 : ((bt a0 x6_1) == 39) = true := beq_iff_eq.mpr c18
             have c18b1 : ((bt a0 x6_1) != 39) = false := bne_eq_false_iff_eq.mpr c18
             clear c18
             have H' := Aside0.mk H
             clear H
             have p11 : 0 ≤ (x6_1 : Int) := of_decide_eq_true (by first | (with_reducible assumption) | assumption)
             have q11 : x6_1 < (a0.size : Int) := of_decide_eq_true (by first | (with_reducible assumption) | assumption)
             have hx11 := bt_at a0 x6_1
             replace p11 := eq_true p11
             replace q11 := eq_true q11
             have p13 : 0 ≤ (x6_1 : Int) := of_decide_eq_true (by first | (with_reducible assumption) | assumption)
             have q13 : x6_1 < (a0.size : Int) := of_decide_eq_true (by first | (with_reducible assumption) | assumption)
             have hx13 := bt_at a0 x6_1
             replace p13 := eq_true p13
             replace q13 := eq_true q13
             have p15 : 0 ≤ (x6_1 : Int) := of_decide_eq_true (by first | (with_reducible assumption) | assumption)
             have q15 : x6_1 < (a0.size : Int) := of_decide_eq_true (by first | (with_reducible assumption) | assumption)
             have hx15 := bt_at a0 x6_1
             replace p15 := eq_true p15
             replace q15 := eq_true q15
             have p17 : 0 ≤ (x6_1 : Int) := of_decide_eq_true (by first | (with_reducible assumption) | assumption)
             have q17 : x6_1 < (a0.size : Int) := of_decide_eq_true (by first | (with_reducible assumption) | assumption)
             have hx17 := bt_at a0 x6_1
             replace p17 := eq_true p17
             replace q17 := eq_true q17
             go_wp2
             go_roundg kj5
             case measure => have := HK1.out; have := HJ5.out; omega
             case rel => exact ⟨(x5_1), (wrap64 (x6_1 + 1)), (by first | rfl | (simp; done) | (simp [*]; done)), (by first | rfl | (simp; done) | (simp [*]; done)), H', ⟨by have := HK1.out; have := HJ5.out; omega⟩, ⟨by repeat (first | (with_reducible first | exact HB.out | apply below_alloc | apply pw_below_drewN | apply below_drew1) | exact HB.out)⟩⟩
            ·rw [if_neg c18] at H
             have c18b0 : ((bt a0 x6_1) == 39) = false := beq_eq_false_iff_ne.mpr c18
             have c18b1 : ((bt a0 x6_1) != 39) = true := bne_iff_ne.mpr c18
             by_cases c20 : (bt a0 x6_1) = 13
             ·rw [if_pos c20] at H
              have c20b0 : ((bt a0 x6_1) == 13) = true := beq_iff_eq.mpr c20
              have c20b1 : ((bt a0 x6_1) != 13) = false := bne_eq_false_iff_eq.mpr c20
              clear c20
              have H' := Aside0.mk H
              clear H
              have p11 : 0 ≤ (x6_1 : Int) := of_decide_eq_true (by first | (with_reducible assumption) | assumption)
              have q11 : x6_1 < (a0.size : Int) := of_decide_eq_true (by first | (with_reducible assumption) | assumption)
              have hx11 := bt_at a0 x6_1
              replace p11 := eq_true p11
              replace q11 := eq_true q11
              have p13 : 0 ≤ (x6_1 : Int) := of_decide_eq_true (by first | (with_reducible assumption) | assumption)
              have q13 : x6_1 < (a0.size : Int) := of_decide_eq_true (by first | (with_reducible assumption) | assumption)
              have hx13 := bt_at a0 x6_1
              replace p13 := eq_true p13
              replace q13 := eq_true q13
              have p15 : 0 ≤ (x6_1 : Int) := of_decide_eq_true (by first | (with_reducible assumption) | assumption)
              have q15 : x6_1 < (a0.size : Int) := of_decide_eq_true (by first | (with_reducible assumption) | assumption)
              have hx15 := bt_at a0 x6_1
              replace p15 := eq_true p15
              replace q15 := eq_true q15
              have p17 : 0 ≤ (x6_1 : Int) := of_decide_eq_true (by first | (with_reducible assumption) | assumption)
              have q17 : x6_1 < (a0.size : Int) := of_decide_eq_true (by first | (with_reducible assumption) | assumption)
              have hx17 := bt_at a0 x6_1
              replace p17 := eq_true p17
              replace q17 := eq_true q17
              have p19 : 0 ≤ (x6_1 : Int) := of_decide_eq_true (by first | (with_reducible assumption) | assumption)
              have q19 : x6_1 < (a0.size : Int) := of_decide_eq_true (by first | (with_reducible assumption) | assumption)
              have hx19 := bt_at a0 x6_1
              replace p19 := eq_true p19
              replace q19 := eq_true q19
              go_wp2
              go_roundg kj5
              case measure => have := HK1.out; have := HJ5.out; omega
              case rel => exact ⟨(x5_1), (wrap64 (x6_1 + 1)), (by first | rfl | (simp; done) | (simp [*]; done)), (by first | rfl | (simp; done) | (simp [*]; done)), H', ⟨by have := HK1.out; have := HJ5.out; omega⟩, ⟨by repeat (first | (with_reducible first | exact HB.out | apply below_alloc | apply pw_below_drewN | apply below_drew1) | exact HB.out)⟩⟩
             ·rw [if_neg c20] at H
              have c20b0 : ((bt a0 x6_1) == 13) = false := beq_eq_false_iff_ne.mpr c20
              have c20b1 : ((bt a0 x6_1) != 13) = true := bne_iff_ne.mpr c20
              have c21b0 := eq_true (of_decide_eq_true (by first | (with_reducible assumption) | assumption) : 0 ≤ x6_1)
              by_cases c22 : x6_1 ≤ (wrap64 (x6_1 + 1))
              ·rw [if_pos c22] at H
               have c22b0 := eq_true c22
               have c22b1 : decide (x6_1 ≤ (wrap64 (x6_1 + 1))) = true := decide_eq_true c22
               by_cases c23 : (wrap64 (x6_1 + 1)) ≤ (a0.size : Int)
               ·rw [if_pos c23] at H
                have c23b0 := eq_true c23
                have c23b1 : decide ((wrap64 (x6_1 + 1)) ≤ (a0.size : Int)) = true := decide_eq_true c23
                by_cases c24 : x5_1.size + ((a0.extract (x6_1 : Int).toNat ((wrap64 (x6_1 + 1)) : Int).toNat).size) ≤ 9223372036854775807
                ·rw [if_pos c24] at H
                 have c24b0 := eq_true c24
                 have c24b1 : decide (x5_1.size + ((a0.extract (x6_1 : Int).toNat ((wrap64 (x6_1 + 1)) : Int).toNat).size) ≤ 9223372036854775807) = true := decide_eq_true c24
                 try have c24b2 : (9223372036854775807 < x5_1.size + ((a0.extract (x6_1 : Int).toNat ((wrap64 (x6_1 + 1)) : Int).toNat).size)) = False := eq_false (Nat.not_lt.2 c24)
                 have H' := Aside0.mk H
                 clear H
                 have p11 : 0 ≤ (x6_1 : Int) := of_decide_eq_true (by first | (with_reducible assumption) | assumption)
                 have q11 : x6_1 < (a0.size : Int) := of_decide_eq_true (by first | (with_reducible assumption) | assumption)
                 have hx11 := bt_at a0 x6_1
                 replace p11 := eq_true p11
                 replace q11 := eq_true q11
                 have p13 : 0 ≤ (x6_1 : Int) := of_decide_eq_true (by first | (with_reducible assumption) | assumption)
                 have q13 : x6_1 < (a0.size : Int) := of_decide_eq_true (by first | (with_reducible assumption) | assumption)
                 have hx13 := bt_at a0 x6_1
                 replace p13 := eq_true p13
                 replace q13 := eq_true q13
                 have p15 : 0 ≤ (x6_1 : Int) := of_decide_eq_true (by first | (with_reducible assumption) | assumption)
                 have q15 : x6_1 < (a0.size : Int) := of_decide_eq_true (by first | (with_reducible assumption) | assumption)
                 have hx15 := bt_at a0 x6_1
                 replace p15 := eq_true p15
                 replace q15 := eq_true q15
                 have p17 : 0 ≤ (x6_1 : Int) := of_decide_eq_true (by first | (with_reducible assumption) | assumption)
                 have q17 : x6_1 < (a0.size : Int) := of_decide_eq_true (by first | (with_reducible assumption) | assumption)
                 have hx17 := bt_at a0 x6_1
                 replace p17 := eq_true p17
                 replace q17 := eq_true q17
                 have p19 : 0 ≤ (x6_1 : Int) := of_decide_eq_true (by first | (with_reducible assumption) | assumption)
                 have q19 : x6_1 < (a0.size : Int) := of_decide_eq_true (by first | (with_reducible assumption) | assumption)
                 have hx19 := bt_at a0 x6_1
                 replace p19 := eq_true p19
                 replace q19 := eq_true q19
                 go_wp2
                 go_roundg kj5
                 case measure => have := HK1.out; have := HJ5.out; omega
                 case rel => exact ⟨(x5_1 ++ (a0.extract (x6_1 : Int).toNat ((wrap64 (x6_1 + 1)) : Int).toNat)), (wrap64 (x6_1 + 1)), (by first | rfl | (simp; done) | (simp [*]; done)), (by first | rfl | (simp; done) | (simp [*]; done)), H', ⟨by have := HK1.out; have := HJ5.out; omega⟩, ⟨by repeat (first | (with_reducible first | exact HB.out | apply below_alloc | apply pw_below_drewN | apply below_drew1) | exact HB.out)⟩⟩
                ·rw [if_neg c24] at H
                 exact absurd H (by simp)
               ·rw [if_neg c23] at H
                exact absurd H (by simp)
              ·rw [if_neg c22] at H
               exact absurd H (by simp)
        ·rw [if_neg c10] at H
         exact absurd H (by simp)
       ·rw [if_neg c9] at H
        exact absurd H (by simp)
      ·replace c8 := Bool.eq_false_iff.mpr c8
       subst c8
       have H1 : (if x5_1.size + 6 ≤ 9223372036854775807 then (if x5_1.size + 6 + x5_1.size ≤ 9223372036854775807 then (if x5_1.size + 6 + x5_1.size + 5 ≤ 9223372036854775807 then (if x5_1.size + 6 + x5_1.size + 5 + x5_1.size ≤ 9223372036854775807 then (if x5_1.size + 6 + x5_1.size + 5 + x5_1.size + 4 ≤ 9223372036854775807 then (if x5_1.size + 6 + x5_1.size + 5 + x5_1.size + 4 + x5_1.size ≤ 9223372036854775807 then (if x5_1.size + 6 + x5_1.size + 5 + x5_1.size + 4 + x5_1.size + 4 ≤ 9223372036854775807 then (if x5_1.size + 6 + x5_1.size + 5 + x5_1.size + 4 + x5_1.size + 4 + x5_1.size ≤ 9223372036854775807 then (if x5_1.size + 6 + x5_1.size + 5 + x5_1.size + 4 + x5_1.size + 4 + x5_1.size + 4 ≤ 9223372036854775807 then (if x5_1.size + 6 + x5_1.size + 5 + x5_1.size + 4 + x5_1.size + 4 + x5_1.size + 4 + x5_1.size ≤ 9223372036854775807 then ((audit_Alike.f (⟨#[60, 112, 32, 97, 61, 39, 49, 39, 62, 60, 98, 62, 120, 60, 47, 98, 62, 121, 60, 47, 112, 62, 60, 33, 99, 62]⟩ : ByteArray) ((((((((((x5_1 ++ (⟨#[60, 80, 32, 65, 61, 34]⟩ : ByteArray)) ++ x5_1) ++ (⟨#[34, 62, 60, 98, 62]⟩ : ByteArray)) ++ x5_1) ++ (⟨#[60, 47, 66, 62]⟩ : ByteArray)) ++ x5_1) ++ (⟨#[60, 47, 112, 62]⟩ : ByteArray)) ++ x5_1) ++ (⟨#[60, 33, 99, 62]⟩ : ByteArray)) ++ x5_1)).bind fun bt163 => ((some (([(⟨#[60, 112, 32, 97, 61, 39, 49, 39, 62, 60, 105, 62, 120, 60, 47, 105, 62, 121, 60, 47, 112, 62, 60, 33, 99, 62]⟩ : ByteArray), (⟨#[60, 112, 32, 97, 61, 39, 49, 39, 62, 60, 98, 62, 60, 47, 98, 62, 60, 47, 112, 62, 60, 33, 100, 62]⟩ : ByteArray), (⟨#[60, 112, 32, 97, 61, 39, 49, 39, 62, 60, 47, 112, 62, 60, 98, 62, 60, 47, 98, 62, 60, 33, 99, 62]⟩ : ByteArray), (⟨#[60, 112, 32, 98, 61, 39, 49, 39, 62, 60, 98, 62, 60, 47, 98, 62, 60, 47, 112, 62, 60, 33, 99, 62]⟩ : ByteArray), (⟨#[60, 112, 32, 97, 61, 39, 49, 39, 32, 99, 62, 60, 98, 62, 60, 47, 98, 62, 60, 47, 112, 62, 60, 33, 99, 62]⟩ : ByteArray), (⟨#[60, 112, 62, 60, 98, 62, 60, 47, 98, 62, 60, 47, 112, 62, 60, 33, 99, 62]⟩ : ByteArray), (⟨#[60, 112, 32, 97, 61, 39, 49, 39, 62, 60, 98, 62, 60, 47, 98, 62, 60, 47, 112, 62]⟩ : ByteArray), (⟨#[60, 112, 32, 97, 61, 39, 49, 39, 62, 60, 98, 62, 60, 47, 98, 62, 60, 47, 112, 62, 60, 33, 99, 62, 60, 98, 114, 62]⟩ : ByteArray), (⟨#[60, 33, 99, 62, 60, 112, 32, 97, 61, 39, 49, 39, 62, 60, 98, 62, 60, 47, 98, 62, 60, 47, 112, 62]⟩ : ByteArray)] : List ByteArray) : List ByteArray)).bind fun y165 => (if 0 ≤ (wrap64 (Int.tmod (IntKind.u64.wrap (a1)) 9)) then (if (wrap64 (Int.tmod (IntKind.u64.wrap (a1)) 9)) < (y165.length : Int) then ((audit_Alike.f (⟨#[60, 112, 32, 97, 61, 39, 49, 39, 62, 60, 98, 62, 120, 60, 47, 98, 62, 121, 60, 47, 112, 62, 60, 33, 99, 62]⟩ : ByteArray) (rdOf ByteArray.empty y165 (wrap64 (Int.tmod (IntKind.u64.wrap (a1)) 9)))).bind fun bt169 => ((stolelaw0_Num.f bt163.2).bind fun t171 => (if t171 = 0 then (if bt163.1 = true then ((stolelaw0_Num.f bt169.2).bind fun t172 => (if t172 = 0 then (some (!bt169.1)) else (some false))) else (some false)) else (some false)))) else (none)) else (none)))) else (none)) else (none)) else (none)) else (none)) else (none)) else (none)) else (none)) else (none)) else (none)) else (none)) = some r := by rw [if_neg (show ¬ (false = true) by decide)] at H; exact H
       clear H
       have H := H1
       clear H1
       by_cases c25 : x5_1.size + 6 ≤ 9223372036854775807
       ·rw [if_pos c25] at H
        have c25b0 := eq_true c25
        have c25b1 : decide (x5_1.size + 6 ≤ 9223372036854775807) = true := decide_eq_true c25
        try have c25b2 : (9223372036854775807 < x5_1.size + 6) = False := eq_false (Nat.not_lt.2 c25)
        by_cases c26 : x5_1.size + 6 + x5_1.size ≤ 9223372036854775807
        ·rw [if_pos c26] at H
         have c26b0 := eq_true c26
         have c26b1 : decide (x5_1.size + 6 + x5_1.size ≤ 9223372036854775807) = true := decide_eq_true c26
         try have c26b2 : (9223372036854775807 < x5_1.size + 6 + x5_1.size) = False := eq_false (Nat.not_lt.2 c26)
         by_cases c27 : x5_1.size + 6 + x5_1.size + 5 ≤ 9223372036854775807
         ·rw [if_pos c27] at H
          have c27b0 := eq_true c27
          have c27b1 : decide (x5_1.size + 6 + x5_1.size + 5 ≤ 9223372036854775807) = true := decide_eq_true c27
          try have c27b2 : (9223372036854775807 < x5_1.size + 6 + x5_1.size + 5) = False := eq_false (Nat.not_lt.2 c27)
          by_cases c28 : x5_1.size + 6 + x5_1.size + 5 + x5_1.size ≤ 9223372036854775807
          ·rw [if_pos c28] at H
           have c28b0 := eq_true c28
           have c28b1 : decide (x5_1.size + 6 + x5_1.size + 5 + x5_1.size ≤ 9223372036854775807) = true := decide_eq_true c28
           try have c28b2 : (9223372036854775807 < x5_1.size + 6 + x5_1.size + 5 + x5_1.size) = False := eq_false (Nat.not_lt.2 c28)
           by_cases c29 : x5_1.size + 6 + x5_1.size + 5 + x5_1.size + 4 ≤ 9223372036854775807
           ·rw [if_pos c29] at H
            have c29b0 := eq_true c29
            have c29b1 : decide (x5_1.size + 6 + x5_1.size + 5 + x5_1.size + 4 ≤ 9223372036854775807) = true := decide_eq_true c29
            try have c29b2 : (9223372036854775807 < x5_1.size + 6 + x5_1.size + 5 + x5_1.size + 4) = False := eq_false (Nat.not_lt.2 c29)
            by_cases c30 : x5_1.size + 6 + x5_1.size + 5 + x5_1.size + 4 + x5_1.size ≤ 9223372036854775807
            ·rw [if_pos c30] at H
             have c30b0 := eq_true c30
             have c30b1 : decide (x5_1.size + 6 + x5_1.size + 5 + x5_1.size + 4 + x5_1.size ≤ 9223372036854775807) = true := decide_eq_true c30
             try have c30b2 : (9223372036854775807 < x5_1.size + 6 + x5_1.size + 5 + x5_1.size + 4 + x5_1.size) = False := eq_false (Nat.not_lt.2 c30)
             by_cases c31 : x5_1.size + 6 + x5_1.size + 5 + x5_1.size + 4 + x5_1.size + 4 ≤ 9223372036854775807
             ·rw [if_pos c31] at H
              have c31b0 := eq_true c31
              have c31b1 : decide (x5_1.size + 6 + x5_1.size + 5 + x5_1.size + 4 + x5_1.size + 4 ≤ 9223372036854775807) = true := decide_eq_true c31
              try have c31b2 : (9223372036854775807 < x5_1.size + 6 + x5_1.size + 5 + x5_1.size + 4 + x5_1.size + 4) = False := eq_false (Nat.not_lt.2 c31)
              by_cases c32 : x5_1.size + 6 + x5_1.size + 5 + x5_1.size + 4 + x5_1.size + 4 + x5_1.size ≤ 9223372036854775807
              ·rw [if_pos c32] at H
               have c32b0 := eq_true c32
               have c32b1 : decide (x5_1.size + 6 + x5_1.size + 5 + x5_1.size + 4 + x5_1.size + 4 + x5_1.size ≤ 9223372036854775807) = true := decide_eq_true c32
               try have c32b2 : (9223372036854775807 < x5_1.size + 6 + x5_1.size + 5 + x5_1.size + 4 + x5_1.size + 4 + x5_1.size) = False := eq_false (Nat.not_lt.2 c32)
               by_cases c33 : x5_1.size + 6 + x5_1.size + 5 + x5_1.size + 4 + x5_1.size + 4 + x5_1.size + 4 ≤ 9223372036854775807
               ·rw [if_pos c33] at H
                have c33b0 := eq_true c33
                have c33b1 : decide (x5_1.size + 6 + x5_1.size + 5 + x5_1.size + 4 + x5_1.size + 4 + x5_1.size + 4 ≤ 9223372036854775807) = true := decide_eq_true c33
                try have c33b2 : (9223372036854775807 < x5_1.size + 6 + x5_1.size + 5 + x5_1.size + 4 + x5_1.size + 4 + x5_1.size + 4) = False := eq_false (Nat.not_lt.2 c33)
                by_cases c34 : x5_1.size + 6 + x5_1.size + 5 + x5_1.size + 4 + x5_1.size + 4 + x5_1.size + 4 + x5_1.size ≤ 9223372036854775807
                ·rw [if_pos c34] at H
                 have c34b0 := eq_true c34
                 have c34b1 : decide (x5_1.size + 6 + x5_1.size + 5 + x5_1.size + 4 + x5_1.size + 4 + x5_1.size + 4 + x5_1.size ≤ 9223372036854775807) = true := decide_eq_true c34
                 try have c34b2 : (9223372036854775807 < x5_1.size + 6 + x5_1.size + 5 + x5_1.size + 4 + x5_1.size + 4 + x5_1.size + 4 + x5_1.size) = False := eq_false (Nat.not_lt.2 c34)
                 replace H := Option.bind_eq_some_iff.mp H
                 obtain ⟨⟨t163, t164⟩, A350, H⟩ := H
                 replace H : ((some (([(⟨#[60, 112, 32, 97, 61, 39, 49, 39, 62, 60, 105, 62, 120, 60, 47, 105, 62, 121, 60, 47, 112, 62, 60, 33, 99, 62]⟩ : ByteArray), (⟨#[60, 112, 32, 97, 61, 39, 49, 39, 62, 60, 98, 62, 60, 47, 98, 62, 60, 47, 112, 62, 60, 33, 100, 62]⟩ : ByteArray), (⟨#[60, 112, 32, 97, 61, 39, 49, 39, 62, 60, 47, 112, 62, 60, 98, 62, 60, 47, 98, 62, 60, 33, 99, 62]⟩ : ByteArray), (⟨#[60, 112, 32, 98, 61, 39, 49, 39, 62, 60, 98, 62, 60, 47, 98, 62, 60, 47, 112, 62, 60, 33, 99, 62]⟩ : ByteArray), (⟨#[60, 112, 32, 97, 61, 39, 49, 39, 32, 99, 62, 60, 98, 62, 60, 47, 98, 62, 60, 47, 112, 62, 60, 33, 99, 62]⟩ : ByteArray), (⟨#[60, 112, 62, 60, 98, 62, 60, 47, 98, 62, 60, 47, 112, 62, 60, 33, 99, 62]⟩ : ByteArray), (⟨#[60, 112, 32, 97, 61, 39, 49, 39, 62, 60, 98, 62, 60, 47, 98, 62, 60, 47, 112, 62]⟩ : ByteArray), (⟨#[60, 112, 32, 97, 61, 39, 49, 39, 62, 60, 98, 62, 60, 47, 98, 62, 60, 47, 112, 62, 60, 33, 99, 62, 60, 98, 114, 62]⟩ : ByteArray), (⟨#[60, 33, 99, 62, 60, 112, 32, 97, 61, 39, 49, 39, 62, 60, 98, 62, 60, 47, 98, 62, 60, 47, 112, 62]⟩ : ByteArray)] : List ByteArray) : List ByteArray)).bind fun y165 => (if 0 ≤ (wrap64 (Int.tmod (IntKind.u64.wrap (a1)) 9)) then (if (wrap64 (Int.tmod (IntKind.u64.wrap (a1)) 9)) < (y165.length : Int) then ((audit_Alike.f (⟨#[60, 112, 32, 97, 61, 39, 49, 39, 62, 60, 98, 62, 120, 60, 47, 98, 62, 121, 60, 47, 112, 62, 60, 33, 99, 62]⟩ : ByteArray) (rdOf ByteArray.empty y165 (wrap64 (Int.tmod (IntKind.u64.wrap (a1)) 9)))).bind fun bt169 => ((stolelaw0_Num.f t164).bind fun t171 => (if t171 = 0 then (if t163 = true then ((stolelaw0_Num.f bt169.2).bind fun t172 => (if t172 = 0 then (some (!bt169.1)) else (some false))) else (some false)) else (some false)))) else (none)) else (none))) = some r := H
                 have A35 := Aside0.mk A350
                 clear A350
                 obtain ⟨y165, hy165⟩ : ∃ y_ : List ByteArray, y_ = (([(⟨#[60, 112, 32, 97, 61, 39, 49, 39, 62, 60, 105, 62, 120, 60, 47, 105, 62, 121, 60, 47, 112, 62, 60, 33, 99, 62]⟩ : ByteArray), (⟨#[60, 112, 32, 97, 61, 39, 49, 39, 62, 60, 98, 62, 60, 47, 98, 62, 60, 47, 112, 62, 60, 33, 100, 62]⟩ : ByteArray), (⟨#[60, 112, 32, 97, 61, 39, 49, 39, 62, 60, 47, 112, 62, 60, 98, 62, 60, 47, 98, 62, 60, 33, 99, 62]⟩ : ByteArray), (⟨#[60, 112, 32, 98, 61, 39, 49, 39, 62, 60, 98, 62, 60, 47, 98, 62, 60, 47, 112, 62, 60, 33, 99, 62]⟩ : ByteArray), (⟨#[60, 112, 32, 97, 61, 39, 49, 39, 32, 99, 62, 60, 98, 62, 60, 47, 98, 62, 60, 47, 112, 62, 60, 33, 99, 62]⟩ : ByteArray), (⟨#[60, 112, 62, 60, 98, 62, 60, 47, 98, 62, 60, 47, 112, 62, 60, 33, 99, 62]⟩ : ByteArray), (⟨#[60, 112, 32, 97, 61, 39, 49, 39, 62, 60, 98, 62, 60, 47, 98, 62, 60, 47, 112, 62]⟩ : ByteArray), (⟨#[60, 112, 32, 97, 61, 39, 49, 39, 62, 60, 98, 62, 60, 47, 98, 62, 60, 47, 112, 62, 60, 33, 99, 62, 60, 98, 114, 62]⟩ : ByteArray), (⟨#[60, 33, 99, 62, 60, 112, 32, 97, 61, 39, 49, 39, 62, 60, 98, 62, 60, 47, 98, 62, 60, 47, 112, 62]⟩ : ByteArray)] : List ByteArray)) := ⟨_, rfl⟩
                 replace H : (if 0 ≤ (wrap64 (Int.tmod (IntKind.u64.wrap (a1)) 9)) then (if (wrap64 (Int.tmod (IntKind.u64.wrap (a1)) 9)) < (y165.length : Int) then ((audit_Alike.f (⟨#[60, 112, 32, 97, 61, 39, 49, 39, 62, 60, 98, 62, 120, 60, 47, 98, 62, 121, 60, 47, 112, 62, 60, 33, 99, 62]⟩ : ByteArray) (rdOf ByteArray.empty y165 (wrap64 (Int.tmod (IntKind.u64.wrap (a1)) 9)))).bind fun bt169 => ((stolelaw0_Num.f t164).bind fun t171 => (if t171 = 0 then (if t163 = true then ((stolelaw0_Num.f bt169.2).bind fun t172 => (if t172 = 0 then (some (!bt169.1)) else (some false))) else (some false)) else (some false)))) else (none)) else (none)) = some r := by first | (rw [hy165]; with_reducible exact H) | (have H2_ := (Option.bind_some _ _).symm.trans H; rw [hy165]; with_reducible exact H2_) | (have H2_ := (Option.bind_some _ _).symm.trans H; with_reducible exact H2_) | with_reducible exact H | (rw [hy165]; exact H) | exact H
                 have Ny165 := Aside0.mk hy165
                 clear hy165
                 obtain ⟨ji36, hji36⟩ : ∃ j_ : Int, (wrap64 (Int.tmod (IntKind.u64.wrap (a1)) 9)) = j_ := ⟨_, rfl⟩
                 replace H : (if 0 ≤ (ji36) then (if (ji36) < (y165.length : Int) then ((audit_Alike.f (⟨#[60, 112, 32, 97, 61, 39, 49, 39, 62, 60, 98, 62, 120, 60, 47, 98, 62, 121, 60, 47, 112, 62, 60, 33, 99, 62]⟩ : ByteArray) (rdOf ByteArray.empty y165 (ji36))).bind fun bt169 => ((stolelaw0_Num.f t164).bind fun t171 => (if t171 = 0 then (if t163 = true then ((stolelaw0_Num.f bt169.2).bind fun t172 => (if t172 = 0 then (some (!bt169.1)) else (some false))) else (some false)) else (some false)))) else (none)) else (none)) = some r := by first | (rw [hji36] at H; exact H) | (simp only [hji36] at H ⊢; exact H)
                 (try rw [hji36] at A35)
                 have hji36w : (IntKind.i64.wrap (Int.tmod (IntKind.u64.wrap (a1)) 9)) = ji36 := (i64_w _).trans hji36
                 by_cases c37 : 0 ≤ (ji36)
                 ·rw [if_pos c37] at H
                  have c37b0 : decide (0 ≤ (ji36)) = true := decide_eq_true c37
                  clear c37
                  by_cases c38 : (ji36) < (y165.length : Int)
                  ·rw [if_pos c38] at H
                   have c38b0 : decide ((ji36) < (y165.length : Int)) = true := decide_eq_true c38
                   clear c38
                   replace H := Option.bind_eq_some_iff.mp H
                   obtain ⟨⟨t169, t170⟩, A390, H⟩ := H
                   replace H : ((stolelaw0_Num.f t164).bind fun t171 => (if t171 = 0 then (if t163 = true then ((stolelaw0_Num.f t170).bind fun t172 => (if t172 = 0 then (some (!t169)) else (some false))) else (some false)) else (some false))) = some r := H
                   have A39 := Aside0.mk A390
                   clear A390
                   replace H := Option.bind_eq_some_iff.mp H
                   obtain ⟨t171, A400, H⟩ := H
                   replace H : (if t171 = 0 then (if t163 = true then ((stolelaw0_Num.f t170).bind fun t172 => (if t172 = 0 then (some (!t169)) else (some false))) else (some false)) else (some false)) = some r := H
                   have A40 := Aside0.mk A400
                   clear A400
                   by_cases c41 : t171 = 0
                   ·rw [if_pos c41] at H
                    have c41b0 : (t171 == 0) = true := beq_iff_eq.mpr c41
                    have c41b1 : (t171 != 0) = false := bne_eq_false_iff_eq.mpr c41
                    clear c41
                    by_cases c42 : t163 = true
                    ·subst c42
                     have H1 : ((stolelaw0_Num.f t170).bind fun t172 => (if t172 = 0 then (some (!t169)) else (some false))) = some r := by rw [if_pos rfl] at H; exact H
                     clear H
                     have H := H1
                     clear H1
                     replace H := Option.bind_eq_some_iff.mp H
                     obtain ⟨t172, A430, H⟩ := H
                     replace H : (if t172 = 0 then (some (!t169)) else (some false)) = some r := H
                     have A43 := Aside0.mk A430
                     clear A430
                     by_cases c44 : t172 = 0
                     ·rw [if_pos c44] at H
                      have c44b0 : (t172 == 0) = true := beq_iff_eq.mpr c44
                      have c44b1 : (t172 != 0) = false := bne_eq_false_iff_eq.mpr c44
                      clear c44
                      obtain rfl := Option.some.inj H
                      go_wp2_with (first | ((with_reducible refine gate_callee (f := 37) rfl ?_); refine goesL_ (some 78) rfl rfl Tryz.func37 (by kernel_rfl) rfl #[.string (⟨#[60, 112, 32, 97, 61, 39, 49, 39, 62, 60, 98, 62, 120, 60, 47, 98, 62, 121, 60, 47, 112, 62, 60, 33, 99, 62]⟩ : ByteArray), .string ((((((((((x5_1 ++ (⟨#[60, 80, 32, 65, 61, 34]⟩ : ByteArray)) ++ x5_1) ++ (⟨#[34, 62, 60, 98, 62]⟩ : ByteArray)) ++ x5_1) ++ (⟨#[60, 47, 66, 62]⟩ : ByteArray)) ++ x5_1) ++ (⟨#[60, 47, 112, 62]⟩ : ByteArray)) ++ x5_1) ++ (⟨#[60, 33, 99, 62]⟩ : ByteArray)) ++ x5_1)] rfl (by (try simp only [List.map_toArray, List.map_cons, List.map_nil]); first | done | rfl | (simp only [List.length_drop, List.length_take]; rfl)) ?_; (with_reducible refine (audit_Alike.calls (⟨#[60, 112, 32, 97, 61, 39, 49, 39, 62, 60, 98, 62, 120, 60, 47, 98, 62, 121, 60, 47, 112, 62, 60, 33, 99, 62]⟩ : ByteArray) ((((((((((x5_1 ++ (⟨#[60, 80, 32, 65, 61, 34]⟩ : ByteArray)) ++ x5_1) ++ (⟨#[34, 62, 60, 98, 62]⟩ : ByteArray)) ++ x5_1) ++ (⟨#[60, 47, 66, 62]⟩ : ByteArray)) ++ x5_1) ++ (⟨#[60, 47, 112, 62]⟩ : ByteArray)) ++ x5_1) ++ (⟨#[60, 33, 99, 62]⟩ : ByteArray)) ++ x5_1) true t164 _ (tabs_below HT.out (by repeat (first | (with_reducible first | exact HB.out | apply below_alloc | apply pw_below_drewN | apply below_drew1) | exact HB.out))) A35.out).mono ?_); rintro e w45 ⟨rfl, hb⟩; refine ⟨_, rfl, ?_⟩; have n0_ := Aside0.mk (below_step (by repeat (first | (with_reducible first | exact HB.out | apply below_alloc | apply pw_below_drewN | apply below_drew1) | exact HB.out)) hb); clear HB; have HB := n0_; clear n0_; (try clear hb); (try clear hb2); (try clear hk); (try clear hi)) | ((with_reducible refine gate_dst (N := 81) rfl ?_); refine Kd.R_lit Kd.string _ 9 ?hg (N := 81) ?hd (xs := ([(⟨#[60, 112, 32, 97, 61, 39, 49, 39, 62, 60, 105, 62, 120, 60, 47, 105, 62, 121, 60, 47, 112, 62, 60, 33, 99, 62]⟩ : ByteArray), (⟨#[60, 112, 32, 97, 61, 39, 49, 39, 62, 60, 98, 62, 60, 47, 98, 62, 60, 47, 112, 62, 60, 33, 100, 62]⟩ : ByteArray), (⟨#[60, 112, 32, 97, 61, 39, 49, 39, 62, 60, 47, 112, 62, 60, 98, 62, 60, 47, 98, 62, 60, 33, 99, 62]⟩ : ByteArray), (⟨#[60, 112, 32, 98, 61, 39, 49, 39, 62, 60, 98, 62, 60, 47, 98, 62, 60, 47, 112, 62, 60, 33, 99, 62]⟩ : ByteArray), (⟨#[60, 112, 32, 97, 61, 39, 49, 39, 32, 99, 62, 60, 98, 62, 60, 47, 98, 62, 60, 47, 112, 62, 60, 33, 99, 62]⟩ : ByteArray), (⟨#[60, 112, 62, 60, 98, 62, 60, 47, 98, 62, 60, 47, 112, 62, 60, 33, 99, 62]⟩ : ByteArray), (⟨#[60, 112, 32, 97, 61, 39, 49, 39, 62, 60, 98, 62, 60, 47, 98, 62, 60, 47, 112, 62]⟩ : ByteArray), (⟨#[60, 112, 32, 97, 61, 39, 49, 39, 62, 60, 98, 62, 60, 47, 98, 62, 60, 47, 112, 62, 60, 33, 99, 62, 60, 98, 114, 62]⟩ : ByteArray), (⟨#[60, 33, 99, 62, 60, 112, 32, 97, 61, 39, 49, 39, 62, 60, 98, 62, 60, 47, 98, 62, 60, 47, 112, 62]⟩ : ByteArray)] : List ByteArray)) (inner := [.string (⟨#[60, 112, 32, 97, 61, 39, 49, 39, 62, 60, 105, 62, 120, 60, 47, 105, 62, 121, 60, 47, 112, 62, 60, 33, 99, 62]⟩ : ByteArray), .string (⟨#[60, 112, 32, 97, 61, 39, 49, 39, 62, 60, 98, 62, 60, 47, 98, 62, 60, 47, 112, 62, 60, 33, 100, 62]⟩ : ByteArray), .string (⟨#[60, 112, 32, 97, 61, 39, 49, 39, 62, 60, 47, 112, 62, 60, 98, 62, 60, 47, 98, 62, 60, 33, 99, 62]⟩ : ByteArray), .string (⟨#[60, 112, 32, 98, 61, 39, 49, 39, 62, 60, 98, 62, 60, 47, 98, 62, 60, 47, 112, 62, 60, 33, 99, 62]⟩ : ByteArray), .string (⟨#[60, 112, 32, 97, 61, 39, 49, 39, 32, 99, 62, 60, 98, 62, 60, 47, 98, 62, 60, 47, 112, 62, 60, 33, 99, 62]⟩ : ByteArray), .string (⟨#[60, 112, 62, 60, 98, 62, 60, 47, 98, 62, 60, 47, 112, 62, 60, 33, 99, 62]⟩ : ByteArray), .string (⟨#[60, 112, 32, 97, 61, 39, 49, 39, 62, 60, 98, 62, 60, 47, 98, 62, 60, 47, 112, 62]⟩ : ByteArray), .string (⟨#[60, 112, 32, 97, 61, 39, 49, 39, 62, 60, 98, 62, 60, 47, 98, 62, 60, 47, 112, 62, 60, 33, 99, 62, 60, 98, 114, 62]⟩ : ByteArray), .string (⟨#[60, 33, 99, 62, 60, 112, 32, 97, 61, 39, 49, 39, 62, 60, 98, 62, 60, 47, 98, 62, 60, 47, 112, 62]⟩ : ByteArray)]) (ok := fun _ => True) (okp := fun _ => True) ?hr ?hp (fun _ hk => hk) trivial (Below.refl _ _) (Nat.le_refl _) (by simp) ?_; (case hd => rfl); (case hg => rfl); (case hr => first | (go_simp; done) | (go_simp; rfl)); (case hp => exact (Reps.one (show Kd.M Kd.string _ _ _ (⟨#[60, 112, 32, 97, 61, 39, 49, 39, 62, 60, 105, 62, 120, 60, 47, 105, 62, 121, 60, 47, 112, 62, 60, 33, 99, 62]⟩ : ByteArray) [.string (⟨#[60, 112, 32, 97, 61, 39, 49, 39, 62, 60, 105, 62, 120, 60, 47, 105, 62, 121, 60, 47, 112, 62, 60, 33, 99, 62]⟩ : ByteArray)] from rfl) (Reps.one (show Kd.M Kd.string _ _ _ (⟨#[60, 112, 32, 97, 61, 39, 49, 39, 62, 60, 98, 62, 60, 47, 98, 62, 60, 47, 112, 62, 60, 33, 100, 62]⟩ : ByteArray) [.string (⟨#[60, 112, 32, 97, 61, 39, 49, 39, 62, 60, 98, 62, 60, 47, 98, 62, 60, 47, 112, 62, 60, 33, 100, 62]⟩ : ByteArray)] from rfl) (Reps.one (show Kd.M Kd.string _ _ _ (⟨#[60, 112, 32, 97, 61, 39, 49, 39, 62, 60, 47, 112, 62, 60, 98, 62, 60, 47, 98, 62, 60, 33, 99, 62]⟩ : ByteArray) [.string (⟨#[60, 112, 32, 97, 61, 39, 49, 39, 62, 60, 47, 112, 62, 60, 98, 62, 60, 47, 98, 62, 60, 33, 99, 62]⟩ : ByteArray)] from rfl) (Reps.one (show Kd.M Kd.string _ _ _ (⟨#[60, 112, 32, 98, 61, 39, 49, 39, 62, 60, 98, 62, 60, 47, 98, 62, 60, 47, 112, 62, 60, 33, 99, 62]⟩ : ByteArray) [.string (⟨#[60, 112, 32, 98, 61, 39, 49, 39, 62, 60, 98, 62, 60, 47, 98, 62, 60, 47, 112, 62, 60, 33, 99, 62]⟩ : ByteArray)] from rfl) (Reps.one (show Kd.M Kd.string _ _ _ (⟨#[60, 112, 32, 97, 61, 39, 49, 39, 32, 99, 62, 60, 98, 62, 60, 47, 98, 62, 60, 47, 112, 62, 60, 33, 99, 62]⟩ : ByteArray) [.string (⟨#[60, 112, 32, 97, 61, 39, 49, 39, 32, 99, 62, 60, 98, 62, 60, 47, 98, 62, 60, 47, 112, 62, 60, 33, 99, 62]⟩ : ByteArray)] from rfl) (Reps.one (show Kd.M Kd.string _ _ _ (⟨#[60, 112, 62, 60, 98, 62, 60, 47, 98, 62, 60, 47, 112, 62, 60, 33, 99, 62]⟩ : ByteArray) [.string (⟨#[60, 112, 62, 60, 98, 62, 60, 47, 98, 62, 60, 47, 112, 62, 60, 33, 99, 62]⟩ : ByteArray)] from rfl) (Reps.one (show Kd.M Kd.string _ _ _ (⟨#[60, 112, 32, 97, 61, 39, 49, 39, 62, 60, 98, 62, 60, 47, 98, 62, 60, 47, 112, 62]⟩ : ByteArray) [.string (⟨#[60, 112, 32, 97, 61, 39, 49, 39, 62, 60, 98, 62, 60, 47, 98, 62, 60, 47, 112, 62]⟩ : ByteArray)] from rfl) (Reps.one (show Kd.M Kd.string _ _ _ (⟨#[60, 112, 32, 97, 61, 39, 49, 39, 62, 60, 98, 62, 60, 47, 98, 62, 60, 47, 112, 62, 60, 33, 99, 62, 60, 98, 114, 62]⟩ : ByteArray) [.string (⟨#[60, 112, 32, 97, 61, 39, 49, 39, 62, 60, 98, 62, 60, 47, 98, 62, 60, 47, 112, 62, 60, 33, 99, 62, 60, 98, 114, 62]⟩ : ByteArray)] from rfl) (Reps.one (show Kd.M Kd.string _ _ _ (⟨#[60, 33, 99, 62, 60, 112, 32, 97, 61, 39, 49, 39, 62, 60, 98, 62, 60, 47, 98, 62, 60, 47, 112, 62]⟩ : ByteArray) [.string (⟨#[60, 33, 99, 62, 60, 112, 32, 97, 61, 39, 49, 39, 62, 60, 98, 62, 60, 47, 98, 62, 60, 47, 112, 62]⟩ : ByteArray)] from rfl) (Reps.none _ _))))))))))); intro v166 w46 ho47 hb hg_ hnew_; clear hg_ hnew_; (first | rw [← Ny165.out] at ho47 | (simp only [Int.reduceToNat] at ho47; rw [← Ny165.out] at ho47)); have n0_ := Aside0.mk (Kd.R_lower ho47 (below_size (by repeat (first | (with_reducible first | exact HB.out | apply below_alloc | apply pw_below_drewN | apply below_drew1) | exact HB.out)))); have n1_ := Aside0.mk (below_step (by repeat (first | (with_reducible first | exact HB.out | apply below_alloc | apply pw_below_drewN | apply below_drew1) | exact HB.out)) hb); clear HB; have HO167 := n0_; have HB := n1_; clear n0_ n1_; clear hb ho47; obtain ⟨Ao48, co48, eo48⟩ := Kd.R_slice HO167.out; subst eo48; have p168 : 0 ≤ ((ji36) : Int) := of_decide_eq_true (by first | (with_reducible assumption) | assumption); have q168 : (ji36) < (y165.length : Int) := of_decide_eq_true (by first | (with_reducible assumption) | assumption); obtain ⟨ad168, e168, hx168_0⟩ := Kd.at_string (Kd.R_reads' HO167.out).2.2 (ji36) p168 q168; cases e168; replace p168 := eq_true p168; replace q168 := eq_true q168) | ((with_reducible refine gate_callee (f := 37) rfl ?_); refine goesL_ (some 91) rfl rfl Tryz.func37 (by kernel_rfl) rfl #[.string (⟨#[60, 112, 32, 97, 61, 39, 49, 39, 62, 60, 98, 62, 120, 60, 47, 98, 62, 121, 60, 47, 112, 62, 60, 33, 99, 62]⟩ : ByteArray), .string (rdOf ByteArray.empty y165 (ji36))] rfl (by (try simp only [List.map_toArray, List.map_cons, List.map_nil]); first | done | (simp only [hji36]; rfl) | rfl | (simp only [List.length_drop, List.length_take]; rfl)) ?_; (with_reducible refine (audit_Alike.calls (⟨#[60, 112, 32, 97, 61, 39, 49, 39, 62, 60, 98, 62, 120, 60, 47, 98, 62, 121, 60, 47, 112, 62, 60, 33, 99, 62]⟩ : ByteArray) (rdOf ByteArray.empty y165 (ji36)) t169 t170 _ (tabs_below HT.out (by repeat (first | (with_reducible first | exact HB.out | apply below_alloc | apply pw_below_drewN | apply below_drew1) | exact HB.out))) A39.out).mono ?_); rintro e w49 ⟨rfl, hb⟩; refine ⟨_, rfl, ?_⟩; have n0_ := Aside0.mk (Kd.R_below (by (with_reducible repeat (first | apply Kd.R_alloc | apply Kd.R_drewN | apply Kd.R_drew)); exact HO167.out) hb); have n1_ := Aside0.mk (below_step (by repeat (first | (with_reducible first | exact HB.out | apply below_alloc | apply pw_below_drewN | apply below_drew1) | exact HB.out)) hb); clear HO167; clear HB; have HO167 := n0_; have HB := n1_; clear n0_ n1_; (try clear hb); (try clear hb2); (try clear hk); (try clear hi)) | ((with_reducible refine gate_callee (f := 21) rfl ?_); refine goesL_ (some 95) rfl rfl Tryz.func21 (by kernel_rfl) rfl #[.int .i64 t164] rfl (by (try simp only [List.map_toArray, List.map_cons, List.map_nil]); first | done | rfl | (simp only [List.length_drop, List.length_take]; rfl)) ?_; (with_reducible refine (stolelaw0_Num.calls t164 t171 _ A40.out).mono ?_); rintro e w' ⟨rfl, ⟨nd, rfl⟩⟩; refine ⟨_, rfl, ?_⟩) | (go_at_call 21; (with_reducible refine (stolelaw0_Num.calls t170 t172 _ A43.out).mono ?_); rintro e w' ⟨rfl, ⟨nd, rfl⟩⟩))
                      go_ret
                      exact ⟨by first | rfl | (simp [errW_none, errW_some] <;> rfl) | (simp only [← hji36]; first | rfl | (simp [errW_none, errW_some] <;> rfl)) | (simp [*, errW_none, errW_some] <;> rfl), by repeat (first | (with_reducible first | exact HB.out | apply below_alloc | apply pw_below_drewN | apply below_drew1) | exact HB.out)⟩
                     ·rw [if_neg c44] at H
                      have c44b0 : (t172 == 0) = false := beq_eq_false_iff_ne.mpr c44
                      have c44b1 : (t172 != 0) = true := bne_iff_ne.mpr c44
                      obtain rfl := Option.some.inj H
                      exact absurd hr (by simp)
                    ·replace c42 := Bool.eq_false_iff.mpr c42
                     subst c42
                     have H1 : (some false) = some r := by rw [if_neg (show ¬ (false = true) by decide)] at H; exact H
                     clear H
                     have H := H1
                     clear H1
                     obtain rfl := Option.some.inj H
                     exact absurd hr (by simp)
                   ·rw [if_neg c41] at H
                    have c41b0 : (t171 == 0) = false := beq_eq_false_iff_ne.mpr c41
                    have c41b1 : (t171 != 0) = true := bne_iff_ne.mpr c41
                    obtain rfl := Option.some.inj H
                    exact absurd hr (by simp)
                  ·rw [if_neg c38] at H
                   exact absurd H (by simp)
                 ·rw [if_neg c37] at H
                  exact absurd H (by simp)
                ·rw [if_neg c34] at H
                 exact absurd H (by simp)
               ·rw [if_neg c33] at H
                exact absurd H (by simp)
              ·rw [if_neg c32] at H
               exact absurd H (by simp)
             ·rw [if_neg c31] at H
              exact absurd H (by simp)
            ·rw [if_neg c30] at H
             exact absurd H (by simp)
           ·rw [if_neg c29] at H
            exact absurd H (by simp)
          ·rw [if_neg c28] at H
           exact absurd H (by simp)
         ·rw [if_neg c27] at H
          exact absurd H (by simp)
        ·rw [if_neg c26] at H
         exact absurd H (by simp)
       ·rw [if_neg c25] at H
        exact absurd H (by simp)
 ·replace c4 := Bool.eq_false_iff.mpr c4
  subst c4
  have H1 : (some false) = some r := by rw [if_neg (show ¬ (false = true) by decide)] at H; exact H
  clear H
  have H := H1
  clear H1
  obtain rfl := Option.some.inj H
  exact absurd hr (by simp)
def sAA.Pure : Prop := ∀ (a0 : ByteArray) (a1 : Int), a0.size ≤ 140737488351232 → (Lit.int .i64 a1).wf = true → ∃ k, sAA.f k a0 a1 = some true
theorem sAA.walk (P : sAA.Pure) (a0 : ByteArray) (a1 : Int) (w : World) (hT : Tabs w) (w0 : a0.size ≤ 140737488351232) (w1 : (Lit.int .i64 a1).wf = true) :
  Calls Tryz.prog 11 #[.string a0, .int .i64 a1] w fun e w' => e = .returned (.bool true) ∧ Below w.heap.size w w' := by
 obtain ⟨k, h⟩ := P a0 a1 w0 w1
 refine (sAA.calls k a0 a1 true w hT h rfl).mono ?_
 rintro e w' ⟨rfl, hd⟩
 exact ⟨rfl, hd⟩
end Go.Proofs.YtfmcdlbbbmeolaaGreatDoor.XA
end
section
namespace Go.Proofs.YtfmcdlbbbmeolaaGreatDoor.XP
end Go.Proofs.YtfmcdlbbbmeolaaGreatDoor.XP
end
section
namespace Go.Proofs.YtfmcdlbbbmeolaaGreatDoor.P8
open Go.RowKit XK XP Tk ExtP Base YtfmcdlbbbmeolaaGreatDoorW.PrintWords YtfmcdlbbbmeolaaGreatDoorW.PrintLast YtfmcdlbbbmeolaaGreatDoorW.PrintMore
open Tr (parseF skR skS it4 tkS mayNs parse_ok parse_err skel_parse skel_f NodB toks noText tkS_noText)
set_option linter.unusedVariables false
set_option linter.unusedSimpArgs false
set_option maxRecDepth 100000
theorem parse_f (b : ByteArray) : page_Parse.f b = some (parseF b.data.toList) := by
 unfold page_Parse.f tok_Tokens.f parseF
 rw [tokens_eq]
 simp only [Option.bind_some]
 have hb := (toks_bnd b.data.toList).1
 split
 ·unfold tree_Build.f
  rw [if_pos (by omega)]; rfl
 ·rfl
theorem parse_long (n : Nat) (h : 65536 < n) (x : Int) : page_Parse.f (strOfNums (List.replicate n x)) = some ([], 500) := by
 rw [parse_f]
 unfold parseF tokensM
 rw [strOfNums_data, List.length_map, List.length_replicate, if_pos h]; rfl
theorem skel_nil : page_Skeleton.f [] = some (⟨#[]⟩, 800) := by
 rw [skel_f [] (by decide) (fun x hx => (by cases hx))]; rfl
def pg0 : List UInt8 := [60, 112, 32, 97, 61, 49, 62, 120, 60, 98, 62, 121, 60, 47, 98, 62, 60, 47, 112, 62, 60, 33, 113, 62]
def ns0 : List S69 := [⟨0, ⟨#[]⟩, ⟨#[]⟩, [], -1⟩, ⟨1, ⟨#[112]⟩, ⟨#[]⟩, [⟨⟨#[97]⟩, ⟨#[49]⟩⟩], 0⟩, ⟨2, ⟨#[]⟩, ⟨#[120]⟩, [], 1⟩, ⟨1, ⟨#[98]⟩, ⟨#[]⟩, [], 1⟩, ⟨2, ⟨#[]⟩, ⟨#[121]⟩, [], 3⟩, ⟨3, ⟨#[]⟩, ⟨#[113]⟩, [], 0⟩]
theorem pg0_eq : parseF pg0 = (ns0, 0) := by kernel_rfl
theorem sk0_eq : skR ns0 = ([48, 32, 101, 32, 112, 32, 97, 10, 49, 32, 101, 32, 98, 10, 48, 32, 99, 32, 113, 10], 0) := by kernel_rfl
set_option maxHeartbeats 4000000 in
theorem awake_ok : stolelaw8_awake.f 60 = some true := by
 have h1 : page_Parse.f ⟨pg0.toArray⟩ = some (ns0, 0) := by rw [parse_f]; show some (parseF pg0) = _; rw [pg0_eq]
 have h2 : page_Skeleton.f ns0 = some (⟨(skR ns0).1.toArray⟩, (skR ns0).2) := by have := skel_parse pg0; rwa [pg0_eq] at this
 rw [sk0_eq] at h2
 unfold pg0 at h1
 unfold stolelaw8_awake.f
 rw [h1, parse_long 65537 (by decide), skel_nil]
 simp only [Option.bind_some]
 rw [h2]
 decide +kernel
theorem awake_ev : Ev (fun k => stolelaw8_awake.f k) true := Ev.of (fun k => stolelaw8_awake.mono k) awake_ok
end Go.Proofs.YtfmcdlbbbmeolaaGreatDoor.P8
end
section
namespace Go.Proofs.YtfmcdlbbbmeolaaGreatDoor.P24
open Go.RowKit XK XP XQ XA Tk ExtP Base YtfmcdlbbbmeolaaGreatDoorW.PrintWords YtfmcdlbbbmeolaaGreatDoorW.PrintLast YtfmcdlbbbmeolaaGreatDoorW.PrintMore
open Tr (parseF skR skel_parse)
open P8 (parse_f parse_long)
set_option linter.unusedVariables false
set_option linter.unusedSimpArgs false
set_option maxRecDepth 100000
def alikeF (a b : List UInt8) : Bool × Int :=
 if (parseF a).2 = 0 then (if (parseF b).2 = 0 then ((skR (parseF a).1).1 == (skR (parseF b).1).1, 0) else (false, (parseF b).2)) else (false, (parseF a).2)
theorem alike_f (a b : ByteArray) : audit_Alike.f a b = some (alikeF a.data.toList b.data.toList) := by
 unfold audit_Alike.f alikeF
 rw [parse_f a, Option.bind_some]
 by_cases h1 : (parseF a.data.toList).2 = 0
 ·rw [if_pos h1, if_pos h1, parse_f b, Option.bind_some]
  by_cases h2 : (parseF b.data.toList).2 = 0
  ·rw [if_pos h2, if_pos h2, skel_parse, Option.bind_some, skel_parse, Option.bind_some]
   simp only [list_eq]
  ·rw [if_neg h2, if_neg h2]
 ·rw [if_neg h1, if_neg h1]
theorem schemes_f (k : Nat) (a : ByteArray) : audit_Schemes.f k a = if (parseF a.data.toList).2 = 0 then ((sOut k [] (parseF a.data.toList).1).bind fun o => some (o, 0)) else some ([], (parseF a.data.toList).2) := by
 unfold audit_Schemes.f
 rw [parse_f a, Option.bind_some]
theorem schemes_long (k n : Nat) (h : 65536 < n) (x : Int) : audit_Schemes.f k (strOfNums (List.replicate n x)) = some ([], 500) := by
 unfold audit_Schemes.f
 rw [parse_long n h x, Option.bind_some]; rfl
def pgA : List UInt8 := [60, 112, 62, 120, 60, 47, 112, 62]
def pgB : List UInt8 := [60, 112, 62, 121, 38, 108, 116, 59, 60, 47, 112, 62]
def pgC : List UInt8 := [60, 112, 62]
def pgD : List UInt8 := [60, 112, 32, 97, 62]
def pgE : List UInt8 := [60, 97, 32, 104, 114, 101, 102, 61, 39, 72, 84, 84, 80, 58, 120, 39, 62, 60, 105, 109, 103, 32, 115, 114, 99, 61, 106, 97, 118, 97, 115, 99, 114, 105, 112, 116, 58, 49, 32, 116, 105, 116, 108, 101, 61, 39, 97, 58, 98, 39, 62]
theorem ab_eq : alikeF pgA pgB = (true, 0) := by kernel_rfl
theorem cd_eq : alikeF pgC pgD = (false, 0) := by kernel_rfl
theorem e_eq : (if (parseF pgE).2 = 0 then ((sOut 60 [] (parseF pgE).1).bind fun o => some (o, (0 : Int))) else some ([], (parseF pgE).2)) = some ([⟨#[104, 116, 116, 112]⟩, ⟨#[106, 97, 118, 97, 115, 99, 114, 105, 112, 116]⟩], 0) := by kernel_rfl
set_option maxHeartbeats 4000000 in
theorem awake_ok : sAw.f 60 = some true := by
 have h1 : audit_Alike.f ⟨pgA.toArray⟩ ⟨pgB.toArray⟩ = some (true, 0) := by rw [alike_f]; show some (alikeF pgA pgB) = _; rw [ab_eq]
 have h2 : audit_Alike.f ⟨pgC.toArray⟩ ⟨pgD.toArray⟩ = some (false, 0) := by rw [alike_f]; show some (alikeF pgC pgD) = _; rw [cd_eq]
 have h3 : audit_Schemes.f 60 ⟨pgE.toArray⟩ = some ([⟨#[104, 116, 116, 112]⟩, ⟨#[106, 97, 118, 97, 115, 99, 114, 105, 112, 116]⟩], 0) := by rw [schemes_f]; exact e_eq
 unfold pgA pgB at h1
 unfold pgC pgD at h2
 unfold pgE at h3
 unfold sAw.f
 rw [h1, h2, h3, schemes_long 60 65537 (by decide)]
 decide +kernel
theorem awake_ev : Ev (fun k => sAw.f k) true := Ev.of (fun k => sAw.mono k) awake_ok
theorem ali_ok (a b : List UInt8) (h1 : (parseF a).2 = 0) (h2 : (parseF b).2 = 0) : alikeF a b = ((skR (parseF a).1).1 == (skR (parseF b).1).1, 0) := by
 unfold alikeF; rw [if_pos h1, if_pos h2]
end Go.Proofs.YtfmcdlbbbmeolaaGreatDoor.P24
end
section
namespace Go.Proofs.YtfmcdlbbbmeolaaGreatDoor.XA
end Go.Proofs.YtfmcdlbbbmeolaaGreatDoor.XA
end
section
namespace Go.Proofs.YtfmcdlbbbmeolaaGreatDoor.P24
open Go.RowKit XK XP XQ XA Tk ExtP Base YtfmcdlbbbmeolaaGreatDoorW.PrintWords YtfmcdlbbbmeolaaGreatDoorW.PrintLast YtfmcdlbbbmeolaaGreatDoorW.PrintMore
open Tr (parseF skR skel_parse it4 tkS SkT runF parse_ok tkS_noText noText build_ok buildF root)
open Ln (linesL)
open P8 (parse_f parse_long)
set_option linter.unusedVariables false
set_option linter.unusedSimpArgs false
set_option maxRecDepth 100000
theorem txt_cnt (h : ByteArray) (b : List UInt8) : (txtL h b).length ≤ 1 := by
 cases b with
 | nil => exact Nat.zero_le _
 | cons c l => exact Nat.le_refl _
theorem step_cnt (m : Mc) (c : UInt8) : (stepM m c).out.length ≤ m.out.length + 2 := by
 have h1 := txt_cnt m.held m.buf
 unfold stepM
 simp only
 split
 ·simp only; omega
 ·split
  ·simp only [List.length_append, List.length_cons, List.length_nil]; omega
  ·split
   ·simp only [List.length_append, List.length_cons, List.length_nil]; omega
   ·simp only; omega
theorem run_cnt (l : List UInt8) : ∀ m : Mc, (runM m l).out.length ≤ m.out.length + 2 * l.length := by
 induction l with
 | nil => intro m; exact Nat.le_refl _
 | cons c l ih => intro m; rw [run_cons, List.length_cons]; have h1 := ih (stepM m c); have h2 := step_cnt m c; omega
theorem toks_cnt (page : List UInt8) : (tokensM page).1.length ≤ 2 * page.length + 1 := by
 unfold tokensM
 split
 ·exact Nat.zero_le _
 ·have h := run_cnt (linesL page) m0
  have hp := Ln.lines_len page
  show (endM (runM m0 (linesL page))).length ≤ _
  unfold endM
  rw [List.length_append]
  have h2 : ∀ b, (txtL (runM m0 (linesL page)).held b).length ≤ 1 := fun b => txt_cnt _ b
  have h3 := h2 (if restB (runM m0 (linesL page)).st = true then (runM m0 (linesL page)).buf ++ (runM m0 (linesL page)).pnd else (runM m0 (linesL page)).buf)
  have h0 : m0.out.length = 0 := rfl
  omega
theorem short_ok (page : List UInt8) (h : page.length ≤ 2000) : (parseF page).2 = 0 := by
 have h2 : (tokensM page).2 = 0 := by unfold tokensM; rw [if_neg (by omega)]
 unfold parseF
 rw [if_pos h2]
 exact build_ok _ (toks_may page) (by have := toks_cnt page; omega)
theorem lines_none' : ∀ l : List UInt8, (∀ b ∈ l, b ≠ 13) → linesL l = l
 | [], _ => rfl
 | [c], h => by unfold linesL; rw [if_neg (h c (by simp))]
 | c :: d :: l, h => by
  unfold linesL
  rw [if_neg (h c (by simp)), lines_none' (d :: l) (fun b hb => h b (List.mem_cons_of_mem _ hb))]
  rw [if_neg (fun e => h c (by simp) e.1)]
end Go.Proofs.YtfmcdlbbbmeolaaGreatDoor.P24
end
section
namespace Go.Proofs.YtfmcdlbbbmeolaaGreatDoor.P24
open Go.RowKit XK XP XQ XA Tk ExtP Base YtfmcdlbbbmeolaaGreatDoorW.PrintWords YtfmcdlbbbmeolaaGreatDoorW.PrintLast YtfmcdlbbbmeolaaGreatDoorW.PrintMore
open Tr (parseF skR it4 tkS parse_ok noText tkS_noText)
set_option linter.unusedVariables false
set_option linter.unusedSimpArgs false
set_option maxRecDepth 100000
def bsL : List UInt8 := [60, 112, 32, 97, 61, 39, 49, 39, 62, 60, 98, 62, 120, 60, 47, 98, 62, 121, 60, 47, 112, 62, 60, 33, 99, 62]
def otL (i : Nat) : List UInt8 := [[60, 112, 32, 97, 61, 39, 49, 39, 62, 60, 105, 62, 120, 60, 47, 105, 62, 121, 60, 47, 112, 62, 60, 33, 99, 62], [60, 112, 32, 97, 61, 39, 49, 39, 62, 60, 98, 62, 60, 47, 98, 62, 60, 47, 112, 62, 60, 33, 100, 62], [60, 112, 32, 97, 61, 39, 49, 39, 62, 60, 47, 112, 62, 60, 98, 62, 60, 47, 98, 62, 60, 33, 99, 62], [60, 112, 32, 98, 61, 39, 49, 39, 62, 60, 98, 62, 60, 47, 98, 62, 60, 47, 112, 62, 60, 33, 99, 62], [60, 112, 32, 97, 61, 39, 49, 39, 32, 99, 62, 60, 98, 62, 60, 47, 98, 62, 60, 47, 112, 62, 60, 33, 99, 62], [60, 112, 62, 60, 98, 62, 60, 47, 98, 62, 60, 47, 112, 62, 60, 33, 99, 62], [60, 112, 32, 97, 61, 39, 49, 39, 62, 60, 98, 62, 60, 47, 98, 62, 60, 47, 112, 62], [60, 112, 32, 97, 61, 39, 49, 39, 62, 60, 98, 62, 60, 47, 98, 62, 60, 47, 112, 62, 60, 33, 99, 62, 60, 98, 114, 62], [60, 33, 99, 62, 60, 112, 32, 97, 61, 39, 49, 39, 62, 60, 98, 62, 60, 47, 98, 62, 60, 47, 112, 62]].getD i []
theorem ot_no : ∀ i, i < 9 → alikeF bsL (otL i) = (false, 0)
 | 0, _ => by kernel_rfl
 | 1, _ => by kernel_rfl
 | 2, _ => by kernel_rfl
 | 3, _ => by kernel_rfl
 | 4, _ => by kernel_rfl
 | 5, _ => by kernel_rfl
 | 6, _ => by kernel_rfl
 | 7, _ => by kernel_rfl
 | 8, _ => by kernel_rfl
 | n + 9, h => absurd h (by omega)
theorem bs_sk : (parseF bsL).2 = 0 ∧ (skR (parseF bsL).1).1 = (tkS it4 (tokensM bsL).1).out := ⟨by kernel_rfl, by kernel_rfl⟩
def st8 : St := ⟨8, ⟨#[112]⟩, false, ⟨#[97]⟩, ⟨#[]⟩, 0⟩
theorem step_dbl (o : List S41) (b p : List UInt8) (n x : ByteArray) (c : UInt8) (hc : c ≠ 34) : stepM ⟨st8, o, b, p, ⟨#[]⟩, [], some ⟨n, x⟩⟩ c = ⟨st8, o, b, p ++ [c], ⟨#[]⟩, [], some ⟨n, more1 x c⟩⟩ := by
 have h1 : stepS st8 c.toNat = st8 := by
  rw [stepS_8 _ rfl]
  unfold quotedS
  rw [if_neg (ne_nat (n := 34) (by decide) hc)]; rfl
 unfold stepM
 simp only [h1]
 rw [if_neg (fun e => absurd e.2 (by decide)), if_neg (fun e => absurd e.2 (by decide)), if_neg (fun e => absurd e.2 (by decide))]
 rfl
theorem run_dbl : ∀ (l : List UInt8) (o : List S41) (b p : List UInt8) (n x : ByteArray), (∀ c ∈ l, c ≠ 34) → ∃ v, runM ⟨st8, o, b, p, ⟨#[]⟩, [], some ⟨n, x⟩⟩ l = ⟨st8, o, b, p ++ l, ⟨#[]⟩, [], some ⟨n, v⟩⟩
 | [], o, b, p, n, x, _ => ⟨x, by rw [List.append_nil]; rfl⟩
 | c :: l, o, b, p, n, x, h => by
  obtain ⟨v, hv⟩ := run_dbl l o b (p ++ [c]) n (more1 x c) (fun d hd => h d (List.mem_cons_of_mem _ hd))
  exact ⟨v, by rw [run_cons, step_dbl o b p n x c (h c (by simp)), hv, List.append_assoc]; rfl⟩
theorem ch1 (t : List UInt8) : runM ⟨atS 0, [], [], t, ⟨#[]⟩, [], none⟩ [60, 80, 32, 65, 61, 34] = ⟨st8, [], t, [60, 80, 32, 65, 61, 34], ⟨#[]⟩, [], some ⟨⟨#[97]⟩, ⟨#[]⟩⟩⟩ := by kernel_rfl
theorem ch2 (o : List S41) (b p : List UInt8) (v : ByteArray) : runM ⟨st8, o, b, p, ⟨#[]⟩, [], some ⟨⟨#[97]⟩, v⟩⟩ [34, 62, 60, 98, 62] = ⟨atS 0, o ++ txtL ⟨#[]⟩ b ++ [⟨1, ⟨#[112]⟩, ⟨#[]⟩, [⟨⟨#[97]⟩, decS v⟩], false⟩] ++ [] ++ [⟨1, ⟨#[98]⟩, ⟨#[]⟩, [], false⟩], [], [], ⟨#[]⟩, [], none⟩ := by kernel_rfl
theorem ch3 (o : List S41) (t : List UInt8) : runM ⟨atS 0, o, [], t, ⟨#[]⟩, [], none⟩ [60, 47, 66, 62] = ⟨atS 0, o ++ txtL ⟨#[]⟩ t ++ [⟨2, ⟨#[98]⟩, ⟨#[]⟩, [], false⟩], [], [], ⟨#[]⟩, [], none⟩ := by kernel_rfl
theorem ch4 (o : List S41) (t : List UInt8) : runM ⟨atS 0, o, [], t, ⟨#[]⟩, [], none⟩ [60, 47, 112, 62] = ⟨atS 0, o ++ txtL ⟨#[]⟩ t ++ [⟨2, ⟨#[112]⟩, ⟨#[]⟩, [], false⟩], [], [], ⟨#[]⟩, [], none⟩ := by kernel_rfl
theorem ch5 (o : List S41) (t : List UInt8) : runM ⟨atS 0, o, [], t, ⟨#[]⟩, [], none⟩ [60, 33, 99, 62] = ⟨atS 0, o ++ txtL ⟨#[]⟩ t ++ [⟨3, ⟨#[]⟩, ⟨#[99]⟩, [], false⟩], [], [], ⟨#[]⟩, [], none⟩ := by kernel_rfl
def pgT (t : List UInt8) : List UInt8 := t ++ ([60, 80, 32, 65, 61, 34] ++ (t ++ ([34, 62, 60, 98, 62] ++ (t ++ ([60, 47, 66, 62] ++ (t ++ ([60, 47, 112, 62] ++ (t ++ ([60, 33, 99, 62] ++ t)))))))))
def tkT (v : ByteArray) : List S41 := [⟨1, ⟨#[112]⟩, ⟨#[]⟩, [⟨⟨#[97]⟩, v⟩], false⟩, ⟨1, ⟨#[98]⟩, ⟨#[]⟩, [], false⟩, ⟨2, ⟨#[98]⟩, ⟨#[]⟩, [], false⟩, ⟨2, ⟨#[112]⟩, ⟨#[]⟩, [], false⟩, ⟨3, ⟨#[]⟩, ⟨#[99]⟩, [], false⟩]
def OkT (t : List UInt8) : Prop := ∀ b ∈ t, b ≠ 60 ∧ b ≠ 34 ∧ b ≠ 13
theorem pgT_plain {t : List UInt8} (h : OkT t) : ∀ b ∈ pgT t, b ≠ 13 := by
 intro b hb
 have ht : b ∈ t → b ≠ 13 := fun hb => (h b hb).2.2
 unfold pgT at hb
 simp only [List.mem_append] at hb
 rcases hb with hb | hb | hb | hb | hb | hb | hb | hb | hb | hb | hb <;> first
  | exact ht hb
  | (rintro rfl; revert hb; decide)
theorem pgT_len (t : List UInt8) (h : t.length ≤ 200) : (pgT t).length ≤ 2000 := by
 unfold pgT; simp only [List.length_append, List.length_cons, List.length_nil]; omega
theorem pgT_toks {t : List UInt8} (h : OkT t) (hl : t.length ≤ 200) : ∃ v, noText (tokensM (pgT t)).1 = tkT v := by
 have hd : ∀ b ∈ t, b ≠ 60 := fun b hb => (h b hb).1
 have hlen := pgT_len t hl
 have hr : ∀ (o : List S41), runM ⟨atS 0, o, [], [], ⟨#[]⟩, [], none⟩ t = ⟨atS 0, o, [], t, ⟨#[]⟩, [], none⟩ := fun o => by rw [run_data _ t rfl hd]; rfl
 obtain ⟨v, hv⟩ := run_dbl t [] t [60, 80, 32, 65, 61, 34] ⟨#[97]⟩ ⟨#[]⟩ (fun b hb => (h b hb).2.1)
 refine ⟨decS v, ?_⟩
 unfold tokensM
 rw [if_neg (by omega), lines_none' _ (pgT_plain h)]
 unfold pgT
 rw [run_app, show m0 = ⟨atS 0, [], [], [], ⟨#[]⟩, [], none⟩ from rfl, hr, run_app, ch1, run_app, hv, run_app, ch2, run_app, hr, run_app, ch3, run_app, hr, run_app, ch4, run_app, hr, run_app, ch5, hr]
 unfold endM
 simp only [noText_app, noText_txt, List.append_nil, List.nil_append]
 rfl
theorem tkT_sk (v : ByteArray) : (tkS it4 (tkT v)).out = (tkS it4 (tokensM bsL).1).out := by kernel_rfl
theorem pgT_alike {t : List UInt8} (h : OkT t) (hl : t.length ≤ 200) : alikeF bsL (pgT t) = (true, 0) := by
 obtain ⟨v, hv⟩ := pgT_toks h hl
 have h2 := short_ok (pgT t) (pgT_len t hl)
 rw [ali_ok _ _ bs_sk.1 h2, bs_sk.2, parse_ok _ h2]
 have he : noText (tkT v) = tkT v := rfl
 have := tkS_noText it4 (tokensM (pgT t)).1 (tkT v) (by rw [hv, he])
 rw [show ((tkS it4 (tokensM (pgT t)).1).out, (0 : Int)).1 = (tkS it4 (tokensM (pgT t)).1).out from rfl, this, tkT_sk, beq_iff_eq.2 rfl]
def otB : List ByteArray := [(⟨#[60, 112, 32, 97, 61, 39, 49, 39, 62, 60, 105, 62, 120, 60, 47, 105, 62, 121, 60, 47, 112, 62, 60, 33, 99, 62]⟩ : ByteArray), (⟨#[60, 112, 32, 97, 61, 39, 49, 39, 62, 60, 98, 62, 60, 47, 98, 62, 60, 47, 112, 62, 60, 33, 100, 62]⟩ : ByteArray), (⟨#[60, 112, 32, 97, 61, 39, 49, 39, 62, 60, 47, 112, 62, 60, 98, 62, 60, 47, 98, 62, 60, 33, 99, 62]⟩ : ByteArray), (⟨#[60, 112, 32, 98, 61, 39, 49, 39, 62, 60, 98, 62, 60, 47, 98, 62, 60, 47, 112, 62, 60, 33, 99, 62]⟩ : ByteArray), (⟨#[60, 112, 32, 97, 61, 39, 49, 39, 32, 99, 62, 60, 98, 62, 60, 47, 98, 62, 60, 47, 112, 62, 60, 33, 99, 62]⟩ : ByteArray), (⟨#[60, 112, 62, 60, 98, 62, 60, 47, 98, 62, 60, 47, 112, 62, 60, 33, 99, 62]⟩ : ByteArray), (⟨#[60, 112, 32, 97, 61, 39, 49, 39, 62, 60, 98, 62, 60, 47, 98, 62, 60, 47, 112, 62]⟩ : ByteArray), (⟨#[60, 112, 32, 97, 61, 39, 49, 39, 62, 60, 98, 62, 60, 47, 98, 62, 60, 47, 112, 62, 60, 33, 99, 62, 60, 98, 114, 62]⟩ : ByteArray), (⟨#[60, 33, 99, 62, 60, 112, 32, 97, 61, 39, 49, 39, 62, 60, 98, 62, 60, 47, 98, 62, 60, 47, 112, 62]⟩ : ByteArray)]
theorem ot_rd : ∀ i : Nat, i < 9 → (rdOf ByteArray.empty otB (i : Int)).data.toList = otL i
 | 0, _ | 1, _ | 2, _ | 3, _ | 4, _ | 5, _ | 6, _ | 7, _ | 8, _ => rfl
 | n + 9, h => absurd h (by omega)
theorem idx9 (x : Int) : ∃ i : Nat, i < 9 ∧ wrap64 (Int.tmod (IntKind.u64.wrap x) 9) = (i : Int) := by
 have h0 : 0 ≤ IntKind.u64.wrap x := by unfold IntKind.wrap; simp [IntKind.signed, IntKind.bits]; omega
 refine ⟨(IntKind.u64.wrap x % 9).toNat, by omega, ?_⟩
 rw [Int.tmod_eq_emod_of_nonneg h0]
 unfold wrap64; omega
theorem attrs_end (x0 : ByteArray) (x1 x6 : Int) (q : ByteArray) (hq : OkT q.data.toList) (hs : q.size ≤ 200) : Ev (fun k => sAA.j1 k x0 x1 q x6 false) true := by
 refine Ev.step (f := fun k => _) (fun k => by rw [sAA.j1]) ?_
 refine Ev.neg (by simp) (Ev.pos (by omega) (Ev.pos (by omega) (Ev.pos (by omega) (Ev.pos (by omega) (Ev.pos (by omega) (Ev.pos (by omega) (Ev.pos (by omega) (Ev.pos (by omega) (Ev.pos (by omega) (Ev.pos (by omega) ?_))))))))))
 refine Ev.bindC (alike_f _ _) ?_
 have hd : ((((((((((q ++ (⟨#[60, 80, 32, 65, 61, 34]⟩ : ByteArray)) ++ q) ++ (⟨#[34, 62, 60, 98, 62]⟩ : ByteArray)) ++ q) ++ (⟨#[60, 47, 66, 62]⟩ : ByteArray)) ++ q) ++ (⟨#[60, 47, 112, 62]⟩ : ByteArray)) ++ q) ++ (⟨#[60, 33, 99, 62]⟩ : ByteArray)) ++ q).data.toList = pgT q.data.toList := by
  simp only [data_append]; unfold pgT; simp
 have hb : (⟨#[60, 112, 32, 97, 61, 39, 49, 39, 62, 60, 98, 62, 120, 60, 47, 98, 62, 121, 60, 47, 112, 62, 60, 33, 99, 62]⟩ : ByteArray).data.toList = bsL := rfl
 rw [hd, hb, pgT_alike hq (by rw [data_length]; exact hs)]
 refine Ev.bindC (s := otB) rfl ?_
 obtain ⟨i, hi, ei⟩ := idx9 x1
 rw [ei]
 have h9 : otB.length = 9 := rfl
 refine Ev.pos (by omega) (Ev.pos (by rw [h9]; omega) ?_)
 refine Ev.bindC (alike_f _ _) ?_
 rw [hb, ot_rd i hi, ot_no i hi]
 refine Ev.bindC (s := 0) (by unfold stolelaw0_Num.f; rfl) (Ev.pos rfl (Ev.pos rfl ?_))
 exact Ev.bindC (s := 0) (by unfold stolelaw0_Num.f; rfl) (Ev.pos rfl (Ev.now true))
theorem attrs_go (s : ByteArray) (x1 : Int) : ∀ (d i : Nat) (q : ByteArray), i + d = 200 → i ≤ s.size → q.size ≤ i → OkT q.data.toList → Ev (fun k => sAA.l0 k s x1 q (i : Int)) true := by
 intro d
 induction d with
 | zero =>
  intro i q hi hto hqs hq
  have hend := attrs_end s x1 i q hq (by omega)
  refine Ev.step (f := fun k => _) (fun k => by rw [sAA.l0]) ?_
  by_cases h : i < s.size
  ·refine Ev.pos (by omega) ?_
   rw [show decide ((i : Int) < 200) = false from decide_eq_false (by omega)]
   exact hend
  ·exact Ev.neg (by omega) hend
 | succ d ih =>
  intro i q hi hto hqs hq
  have hend := attrs_end s x1 i q hq (by omega)
  refine Ev.step (f := fun k => _) (fun k => by rw [sAA.l0]) ?_
  by_cases h : i < s.size
  ·refine Ev.pos (by omega) ?_
   rw [show decide ((i : Int) < 200) = true from decide_eq_true (by omega)]
   refine Ev.step (f := fun k => _) (fun k => by rw [sAA.j1]) ?_
   have hwr : wrap64 ((i : Int) + 1) = ((i + 1 : Nat) : Int) := wrap_next (n := 300) (by omega) (by decide)
   have hl : i < s.data.toList.length := by rw [data_length]; exact h
   have hbt : bt s (i : Int) = (((s.data.toList[i]).toNat : Nat) : Int) := by
    rw [bt_list s i h, List.getD_eq_getElem?_getD, List.getElem?_eq_getElem hl]; rfl
   obtain ⟨c, hc⟩ : ∃ c, s.data.toList[i] = c := ⟨_, rfl⟩
   rw [hc] at hbt
   have hskip := ih (i + 1) q (by omega) (by omega) (by omega) hq
   refine Ev.pos rfl (Ev.pos (by omega) (Ev.pos (by omega) ?_))
   rw [hwr]
   by_cases h60 : bt s (i : Int) = 60
   ·exact Ev.pos h60 hskip
   refine Ev.neg h60 ?_
   by_cases h62 : bt s (i : Int) = 62
   ·exact Ev.pos h62 hskip
   refine Ev.neg h62 ?_
   by_cases h34 : bt s (i : Int) = 34
   ·exact Ev.pos h34 hskip
   refine Ev.neg h34 ?_
   by_cases h39 : bt s (i : Int) = 39
   ·exact Ev.pos h39 hskip
   refine Ev.neg h39 ?_
   by_cases h13 : bt s (i : Int) = 13
   ·exact Ev.pos h13 hskip
   refine Ev.neg h13 ?_
   have hx : (s.extract (i : Int).toNat (((i + 1 : Nat) : Int)).toNat) = (⟨#[c]⟩ : ByteArray) := by
    refine ext_list ?_
    rw [Int.toNat_natCast, Int.toNat_natCast, Lib.extract_data, List.drop_eq_getElem_cons hl, hc, show i + 1 - i = 1 by omega]; rfl
   rw [hx]
   have hz : (⟨#[c]⟩ : ByteArray).size = 1 := rfl
   refine Ev.pos (by omega) (Ev.pos (by omega) (Ev.pos (by omega) (ih (i + 1) _ (by omega) (by omega) (by rw [size_append]; omega) ?_)))
   intro b hb
   rw [data_append] at hb
   rcases List.mem_append.1 hb with hb | hb
   ·exact hq b hb
   ·have : b = c := by simpa using hb
    subst this
    refine ⟨fun e => h60 ?_, fun e => h34 ?_, fun e => h13 ?_⟩ <;> (rw [hbt, e]; rfl)
  ·exact Ev.neg (by omega) hend
theorem auditAttrs_plain : ∀ (a0 : ByteArray) (a1 : Int), a0.size ≤ 140737488351232 → (Lit.int .i64 a1).wf = true → ∃ k, sAA.f k a0 a1 = some true := by
 intro s x _ _
 refine Ev.rounds ?_
 refine Ev.congr (f := fun k => _) (fun k => by rw [sAA.f]) ?_
 refine Ev.bind awake_ev (Ev.pos rfl ?_)
 exact attrs_go s x 200 0 ⟨#[]⟩ rfl (Nat.zero_le _) (Nat.le_refl _) (fun b hb => by cases hb)
end Go.Proofs.YtfmcdlbbbmeolaaGreatDoor.P24
end
section
namespace Go.Proofs.YtfmcdlbbbmeolaaGreatDoor.RowAuditAttrs
open Go.ChangeShapes Go.WideShapes Go.ChangeAt Go.RowKit YtfmcdlbbbmeolaaGreatDoorW.PrintWords YtfmcdlbbbmeolaaGreatDoorW.PrintLast ExtP
open Go.ChangeMaps (open_string shut_string)
set_option linter.unusedVariables false
theorem own : ownKnob Tryz.prog.godebug = none := by kernel_rfl
set_option maxRecDepth 100000 in
set_option maxHeartbeats 4000000 in
theorem contract (H : Type) (enc : TypeId × Value → H) (W : World) (base : Nat) (args : Array Value) (ds gs : List (DataW H)) (before : List MemPlace)
  (hval0 : ∀ (j : Nat) t v, Tryz.f11.params[j]? = some t → args[j]? = some v → Value.okWide Tryz.prog W .any base t v)
  (hW : DataW.Whole enc Tryz.prog Tryz.f11.params.toList Rows.auditAttrsSpec.vars false W args.toList ds gs before)
  (hsz0 : (DataW.weightsEach Tryz.prog (Tryz.f11.params.toList ++ Rows.auditAttrsSpec.plain.varTypes Tryz.prog) (ds ++ gs)).all (· ≤ reachBytes) = true)
  (hL : laidMetH Tryz.prog Rows.auditAttrsRow.laid W)
  (hsh : W.ShapedOpen Tryz.prog)
  : Calls Tryz.prog 11 args W fun e W' => ∃ v, e = .returned v ∧ Rows.auditAttrsSpec.post enc Tryz.prog Tryz.f11 false true false false W args v W' := by
 have hsz : (DataW.weightsEach Tryz.prog (Tryz.f11.params.toList ++ Rows.auditAttrsSpec.plain.varTypes Tryz.prog) (ds ++ gs)).all (· ≤ reachBytes) = true := hsz0
 have hval : ∀ (j : Nat) t v, Tryz.f11.params[j]? = some t → args[j]? = some v → Value.okWide Tryz.prog W .any base t v := hval0
 have hW' := hW
 obtain ⟨p, q, hA0, hV, rfl, hfz, hnd⟩ := hW
 have hA : DataW.TrodAll enc Tryz.prog W 0 (fun _ => true) true Tryz.f11.params.toList args.toList ds p := hA0
 rw [Tryz.params11] at hA hval hsz
 obtain ⟨v0, vs0, d0, ds0, p0, q0, hargs, rfl, rfl, h0, r0⟩ := trodAll_cons hA
 obtain ⟨v1, vs1, d1, ds1, p1, q1, rfl, rfl, rfl, h1, r1⟩ := trodAll_cons r0
 obtain ⟨rfl, rfl, rfl⟩ := trodAll_nil r1
 obtain rfl : args = #[v0, v1] := by cases args; simp_all
 obtain ⟨rfl, rfl⟩ := trodVars_none hV
 obtain ⟨a0, rfl, rfl, rfl, y0⟩ := open_string Tryz.underlying9 (hval 0 9 v0 rfl rfl) h0
 have w0 : a0.size ≤ 140737488351232 := by
  have z := sized_string hsz (j := 0) (t := 9) rfl rfl
  rw [Array.length_toList] at z
  exact z
 obtain ⟨a1, rfl, rfl, rfl, w1⟩ := open_int Tryz.underlying3 (hval 1 3 v1 rfl rfl) h1
 clear hA0 hval0 hsz0 hsz hval
 have hT : Tabs W := ⟨Tryz.laysM143.s1_3 W hsh, tabP_of_laid hL (by kernel_rfl) (by simp [Rows.auditAttrsRow])⟩
 obtain ⟨k, hk⟩ := P24.auditAttrs_plain a0 a1 w0 w1
 refine (XA.sAA.calls k a0 a1 true W hT hk rfl).mono fun e W' ⟨he, bel0⟩ => ?_
 have bel : Below W.heap.size W W' := bel0
 subst he
 simp only [List.append_nil] at hW'
 exact ⟨_, rfl, _, _, _, [], _, [], hW', trodAll_mk1 (shut_bool Tryz.underlying4 _), (trodAll_cons_mk (shut_string Tryz.underlying9 y0) (trodAll_cons_mk (shut_int Tryz.underlying3 w1) trodAll_mk0)), rfl, bel.frame _, fun h => by cases h⟩
theorem laid_met (os : Os) : laidMetH Tryz.prog Rows.auditAttrsRow.laid ((World.laidAll Tryz.prog os Rows.auditAttrsRow.laid).forCall (fun _ _ => 0) ⟨#[], #[.string ByteArray.empty, .int .i64 0], []⟩).memory := by
 rw [MakeChecks.laidMetH_plain _ _ _ (by kernel_rfl)]
 exact laidMet_laidAll _ (by kernel_rfl) (by kernel_rfl)
theorem reads (os : Os) {H : Type} (enc : TypeId × Value → H) : ∃ places, DataW.whole enc Tryz.prog ((World.laidAll Tryz.prog os Rows.auditAttrsRow.laid).forCall (fun _ _ => 0) ⟨#[], #[.string ByteArray.empty, .int .i64 0], []⟩).memory Tryz.f11.params.toList Rows.auditAttrsSpec.vars false (#[.string ByteArray.empty, .int .i64 0] : Array Value).toList 8 = some ([.lit (.string []), .lit (.int .i64 0)], [], places) :=
 ⟨[], by kernel_rfl⟩
set_option maxRecDepth 100000 in
theorem lifted (os : Os) (started : os.Started) (H : Type) (enc : TypeId × Value → H) (F : Stop.Interp) :
  ReturnsInHanded {} Tryz.checked os 11 .any ((OpenSpec.ofChange Rows.auditAttrsSpec).preRow enc Tryz.prog Tryz.f11 Rows.auditAttrsRow.domain false Rows.auditAttrsRow.laid) (((OpenSpec.ofChange Rows.auditAttrsSpec).at F).post enc Tryz.prog Tryz.f11 false true false false) := by
 obtain ⟨places, hx⟩ := reads os enc
 refine returnsInHanded_of_row (C := Tryz.checked) (s := (OpenSpec.ofChange Rows.auditAttrsSpec)) own started (by kernel_rfl) Tryz.func11
  (witness_row_at (enc := enc) (C := Tryz.checked) false (World.laidAll Tryz.prog os Rows.auditAttrsRow.laid) #[.string ByteArray.empty, .int .i64 0] (World.laidAll_os _ _ _) (by kernel_rfl) (by kernel_rfl) (by kernel_rfl)
   (OpenSpec.preRow_of_cond 8 hx (by kernel_rfl) (fun k hk => by cases hk) (by kernel_rfl) (laid_met os))) ?_
 intro W base args ds gs before hval hW hcnd hcond hsz hL hsh _
 exact contract H enc W base args ds gs before hval hW hsz hL hsh
set_option maxRecDepth 100000 in
theorem c_laid : laidOutB Tryz.pinned.checked.prog = true := by kernel_rfl
set_option maxRecDepth 100000 in
theorem c_maps : mapsRowed Tryz.pinned.checked.prog = true := by kernel_rfl
set_option maxRecDepth 100000 in
theorem c_place : (Rows.auditAttrsRow.inPlace == Tryz.pinned.checked.prog.inPlace 11) = true := by kernel_rfl
set_option maxRecDepth 100000 in
theorem c_unf : (Rows.auditAttrsRow.unfollowed == Tryz.pinned.checked.prog.unfollowed 11) = true := by kernel_rfl
set_option maxRecDepth 100000 in
theorem c_rec : (Rows.auditAttrsRow.recurses == Tryz.pinned.checked.prog.recurses 11) = true := by kernel_rfl
set_option maxRecDepth 100000 in
theorem c_named : (Rows.auditAttrsRow.named == Tryz.pinned.checked.prog.varsNamed 11) = true := by kernel_rfl
set_option maxRecDepth 100000 in
theorem closed : joinedFacts Tryz.pinned.checked.prog 11 Tryz.f11 (OpenSpec.bare (OpenSpec.ofChange Rows.auditAttrsSpec)) Rows.auditAttrsRow = true := by
 unfold joinedFacts
 rw [c_laid, c_maps, c_place, c_unf, c_rec, c_named]
 kernel_rfl
theorem said : Rows.AuditAttrsSaid :=
 OpenClaim.holds_of_cond 11 Tryz.f11 rfl rfl rfl rfl rfl rfl rfl ⟨rfl, rfl, rfl, rfl, rfl⟩ rfl rfl rfl rfl rfl (by kernel_rfl) Tryz.func11 closed
  (of_decide_eq_true (by kernel_rfl)) (by unfold Func.isWrapper; first | (rw [if_pos (by decide +kernel)]; kernel_rfl) | (rw [if_neg (by decide +kernel)]; exact ⟨rfl, rfl⟩))
  (fun os started H enc _ F => by rw [OpenClaim.pre_eq_preRow]; exact lifted os started H enc F)
theorem plain (f : FuncId) (fn : Func) (hf : Tryz.pinned.checked.prog.funcNamed "stole/stolelaw24.AuditAttrs" = some f) (hfn : Tryz.pinned.checked.prog.funcs[f]? = some fn) :
  true = Tryz.pinned.checked.prog.looks [] ∧ ∀ (j : Nat) t, fn.params[j]? = some t → Tryz.pinned.checked.prog.wantsStandIn t = false := by
 obtain rfl : f = 11 := Option.some.inj ((show Tryz.prog.funcNamed "stole/stolelaw24.AuditAttrs" = some 11 by kernel_rfl).symm.trans hf) |>.symm
 obtain rfl : fn = Tryz.f11 := (Option.some.inj (Tryz.func11.symm.trans hfn)).symm
 refine ⟨by kernel_rfl, fun j t ht => ?_⟩
 rw [Tryz.params11] at ht
 have hm := Array.mem_of_getElem? ht
 have hall : (#[9, 3] : Array TypeId).all (fun t => Tryz.prog.wantsStandIn t == false) = true := by kernel_rfl
 rw [Array.all_eq_true'] at hall
 exact eq_of_beq (hall t hm)
theorem proved : Rows.AuditAttrsCardSaid :=
 Claim7.holds_tied_plain_at .later [] _ _ _ _ said (fun _ h => by cases h) (by kernel_rfl) (fun _ h => by cases h) auditAttrs_row_tie rfl ⟨rfl, rfl⟩ (by kernel_rfl) rfl plain (by kernel_rfl)
end Go.Proofs.YtfmcdlbbbmeolaaGreatDoor.RowAuditAttrs
namespace Go.Proofs.YtfmcdlbbbmeolaaGreatDoor
theorem auditAttrs_holds : Rows.AuditAttrsCardSaid := RowAuditAttrs.proved
#print axioms auditAttrs_holds
end Go.Proofs.YtfmcdlbbbmeolaaGreatDoor
end
