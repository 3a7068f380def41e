/- The law stole/stolelaw8.PageForms returns true at every input of its types, and its arguments read behind the call as before. The listed package-level variables are tied to the program's text. No further condition. PageForms, plain. stolelaw8's awake: true; PageTexts, plain. Laid by xprint.py, a program of this session over the kit's print: for each Go function one Lean function of the same answers, and the walk that shows it. Laid by xprint.py, a program of this session over the kit's print: for each Go function one Lean function of the same answers, and the walk that shows it. -/
import Derived.Test.YtfmcdlbbbmeolaaGreatDoorP0
import Derived.Test.YtfmcdlbbbmeolaaGreatDoorP17
import Derived.Test.YtfmcdlbbbmeolaaGreatDoorP18
import Derived.Laws.BitsLemmas
import Derived.Test.YtfmcdlbbbmeolaaGreatDoorCards
import Derived.Test.YtfmcdlbbbmeolaaGreatDoorTie
import Derived.WalkKit
import Derived.ProofKit
import Derived.OpenShut
import Derived.ShutString
import Derived.ChangeOld
import Derived.Below
import Derived.SizedLaws
import Derived.Deep.DeepHandedRow
import Derived.LaidMore
import Derived.Lay
import Derived.SevenTiedAt
section
namespace Go.Proofs.YtfmcdlbbbmeolaaGreatDoor.XP
open Go.RowKit Go.Proofs.YtfmcdlbbbmeolaaGreatDoor.ExtP Go.Proofs.YtfmcdlbbbmeolaaGreatDoor.XK Go.Proofs.YtfmcdlbbbmeolaaGreatDoorW.PrintWords Go.Proofs.YtfmcdlbbbmeolaaGreatDoorW.PrintLast Go.Proofs.YtfmcdlbbbmeolaaGreatDoorW.PrintMore
attribute [local go_sem] max2_int min2_int max_two min_two max_three min_three max_four min_four   -- for this text's walks alone
set_option linter.unusedVariables false
set_option linter.unusedSimpArgs false
/-! ### stolelaw8_PageForms: function 7 -/
mutual
def stolelaw8_PageForms.j0 : Nat → Int → Int → List (S69) → Bool → Option (Bool)
 | 0, _, _, _, _ => none
 | k + 1, x0, x5, x6, x28 => if x28 = true then (some false) else (if (Int.tmod (IntKind.u64.wrap (x0)) 12) = 0 then (if 0 < (x6.length : Int) then (stolelaw8_PageForms.j1 k (x6.set (0 : Int).toNat (⟨(rd_T69 x6 0).f0, (rd_T69 x6 0).f1, (rd_T69 x6 0).f2, (rd_T69 x6 0).f3, 0⟩ : S69))) else (none)) else (if (Int.tmod (IntKind.u64.wrap (x0)) 12) = 1 then (if 0 < (x6.length : Int) then (stolelaw8_PageForms.j1 k (x6.set (0 : Int).toNat (⟨1, (rd_T69 x6 0).f1, (rd_T69 x6 0).f2, (rd_T69 x6 0).f3, (rd_T69 x6 0).f4⟩ : S69))) else (none)) else (if (Int.tmod (IntKind.u64.wrap (x0)) 12) = 2 then (if 0 < (x6.length : Int) then (stolelaw8_PageForms.j1 k (x6.set (0 : Int).toNat (⟨(rd_T69 x6 0).f0, (⟨#[120]⟩ : ByteArray), (rd_T69 x6 0).f2, (rd_T69 x6 0).f3, (rd_T69 x6 0).f4⟩ : S69))) else (none)) else (if (Int.tmod (IntKind.u64.wrap (x0)) 12) = 3 then (if 1 < (x6.length : Int) then (stolelaw8_PageForms.j1 k (x6.set (1 : Int).toNat (⟨(rd_T69 x6 1).f0, (rd_T69 x6 1).f1, (rd_T69 x6 1).f2, (rd_T69 x6 1).f3, 1⟩ : S69))) else (none)) else (if (Int.tmod (IntKind.u64.wrap (x0)) 12) = 4 then (if 1 < (x6.length : Int) then (stolelaw8_PageForms.j1 k (x6.set (1 : Int).toNat (⟨(rd_T69 x6 1).f0, (rd_T69 x6 1).f1, (rd_T69 x6 1).f2, (rd_T69 x6 1).f3, wrap64 (-x5)⟩ : S69))) else (none)) else (if (Int.tmod (IntKind.u64.wrap (x0)) 12) = 5 then (if 1 < (x6.length : Int) then (stolelaw8_PageForms.j1 k (x6.set (1 : Int).toNat (⟨0, (rd_T69 x6 1).f1, (rd_T69 x6 1).f2, (rd_T69 x6 1).f3, (rd_T69 x6 1).f4⟩ : S69))) else (none)) else (if (Int.tmod (IntKind.u64.wrap (x0)) 12) = 6 then (if 1 < (x6.length : Int) then (stolelaw8_PageForms.j1 k (x6.set (1 : Int).toNat (⟨(rd_T69 x6 1).f0, (rd_T69 x6 1).f1, (⟨#[120]⟩ : ByteArray), (rd_T69 x6 1).f3, (rd_T69 x6 1).f4⟩ : S69))) else (none)) else (if (Int.tmod (IntKind.u64.wrap (x0)) 12) = 7 then (if 2 < (x6.length : Int) then (stolelaw8_PageForms.j1 k (x6.set (2 : Int).toNat (⟨(rd_T69 x6 2).f0, (⟨#[120]⟩ : ByteArray), (rd_T69 x6 2).f2, (rd_T69 x6 2).f3, (rd_T69 x6 2).f4⟩ : S69))) else (none)) else (if (Int.tmod (IntKind.u64.wrap (x0)) 12) = 8 then (if 3 < (x6.length : Int) then (stolelaw8_PageForms.j1 k (x6.set (3 : Int).toNat (⟨(rd_T69 x6 3).f0, (rd_T69 x6 3).f1, (rd_T69 x6 3).f2, (rd_T69 x6 3).f3, 2⟩ : S69))) else (none)) else (if (Int.tmod (IntKind.u64.wrap (x0)) 12) = 9 then (if 2 < (x6.length : Int) then (stolelaw8_PageForms.j1 k (x6.set (2 : Int).toNat (⟨wrap64 (3 + x5), (rd_T69 x6 2).f1, (rd_T69 x6 2).f2, (rd_T69 x6 2).f3, (rd_T69 x6 2).f4⟩ : S69))) else (none)) else (if (Int.tmod (IntKind.u64.wrap (x0)) 12) = 10 then (if 2 < (x6.length : Int) then (stolelaw8_PageForms.j1 k (x6.set (2 : Int).toNat (⟨(rd_T69 x6 2).f0, (rd_T69 x6 2).f1, (rd_T69 x6 2).f2, (([(⟨(⟨#[]⟩ : ByteArray), (⟨#[]⟩ : ByteArray)⟩ : S39)] : List (S39))), (rd_T69 x6 2).f4⟩ : S69))) else (none)) else (stolelaw8_PageForms.j1 k ([] : List (S69))))))))))))))
def stolelaw8_PageForms.j1 : Nat → List (S69) → Option (Bool)
 | 0, _ => none
 | k + 1, x6 => (page_Skeleton.f x6).bind fun bt183 => ((page_Texts.f k x6).bind fun bt185 => (if bt183.1.toList = ([] : List UInt8) then ((stolelaw0_Num.f bt183.2).bind fun t189 => (if t189 = 800 then (if (bt185.1.length : Int) = 0 then ((stolelaw0_Num.f bt185.2).bind fun t190 => (some (t190 == 800))) else (some false)) else (some false))) else (some false)))
end
def stolelaw8_PageForms.f (k : Nat) (a0 : Int) (a1 : Int) : Option (Bool) := (stolelaw8_awake.f k).bind fun t163 => (if t163 = true then ((page_Parse.f (⟨#[60, 112, 32, 97, 61, 98, 62, 120, 60, 33, 113, 62, 60, 47, 112, 62]⟩ : ByteArray)).bind fun bt164 => ((stolelaw0_Num.f bt164.2).bind fun t168 => (if t168 = 0 then (stolelaw8_PageForms.j0 k a0 (wrap64 (1 + (Go.bits .and .i64 a1 63))) bt164.1 ((bt164.1.length : Int) != 4)) else (stolelaw8_PageForms.j0 k a0 (wrap64 (1 + (Go.bits .and .i64 a1 63))) bt164.1 true)))) else (some false))
theorem stolelaw8_PageForms.mono_l : ∀ k, (∀ y0 y1 y2 y3, LeO (stolelaw8_PageForms.j0 k y0 y1 y2 y3) (stolelaw8_PageForms.j0 (k + 1) y0 y1 y2 y3)) ∧ (∀ y0, LeO (stolelaw8_PageForms.j1 k y0) (stolelaw8_PageForms.j1 (k + 1) y0))
 | 0 => ⟨fun _ _ _ _ r h => by simp [stolelaw8_PageForms.j0] at h, fun _ r h => by simp [stolelaw8_PageForms.j1] at h⟩
 | k + 1 => by
  obtain ⟨ih0, ih1⟩ := stolelaw8_PageForms.mono_l k
  refine ⟨?_, ?_⟩
  ·intro y0 y1 y2 y3
   unfold stolelaw8_PageForms.j0
   repeat' first
   | (with_reducible exact ih0 _ _ _ _)
   | (with_reducible exact ih1 _)
   | (with_reducible exact page_Texts.mono _ _)
   | (with_reducible exact stolelaw8_awake.mono _)
   | (with_reducible exact LeO.refl _)
   | (with_reducible exact LeO.none _)
   | (with_reducible refine LeO.ite ?_ ?_)
   | (with_reducible refine LeO.bind ?_ (fun _ => ?_))
   | exact ih0 _ _ _ _
   | exact ih1 _
   | exact page_Texts.mono _ _
   | exact stolelaw8_awake.mono _
   | exact LeO.none _
   | refine LeO.ite ?_ ?_
   | refine LeO.bind ?_ (fun _ => ?_)
  ·intro y0
   unfold stolelaw8_PageForms.j1
   repeat' first
   | (with_reducible exact ih0 _ _ _ _)
   | (with_reducible exact ih1 _)
   | (with_reducible exact page_Texts.mono _ _)
   | (with_reducible exact stolelaw8_awake.mono _)
   | (with_reducible exact LeO.refl _)
   | (with_reducible exact LeO.none _)
   | (with_reducible refine LeO.ite ?_ ?_)
   | (with_reducible refine LeO.bind ?_ (fun _ => ?_))
   | exact ih0 _ _ _ _
   | exact ih1 _
   | exact page_Texts.mono _ _
   | exact stolelaw8_awake.mono _
   | exact LeO.none _
   | refine LeO.ite ?_ ?_
   | refine LeO.bind ?_ (fun _ => ?_)
theorem stolelaw8_PageForms.mono : ∀ a0 a1 k, LeO (stolelaw8_PageForms.f k a0 a1) (stolelaw8_PageForms.f (k + 1) a0 a1) := by
 intro a0 a1 k
 obtain ⟨ih0, ih1⟩ := stolelaw8_PageForms.mono_l k
 unfold stolelaw8_PageForms.f
 repeat' first
   | (with_reducible exact ih0 _ _ _ _)
   | (with_reducible exact ih1 _)
   | (with_reducible exact page_Texts.mono _ _)
   | (with_reducible exact stolelaw8_awake.mono _)
   | (with_reducible exact LeO.refl _)
   | (with_reducible exact LeO.none _)
   | (with_reducible refine LeO.ite ?_ ?_)
   | (with_reducible refine LeO.bind ?_ (fun _ => ?_))
   | exact ih0 _ _ _ _
   | exact ih1 _
   | exact page_Texts.mono _ _
   | exact stolelaw8_awake.mono _
   | exact LeO.none _
   | refine LeO.ite ?_ ?_
   | refine LeO.bind ?_ (fun _ => ?_)
set_option maxHeartbeats 8000000 in
set_option maxRecDepth 100000 in
theorem stolelaw8_PageForms.calls (k : Nat) (a0 : Int) (a1 : Int) (r : Bool) (w : World) (hT : Tabs w) (h : stolelaw8_PageForms.f k a0 a1 = some r) (hr : r = true) :
  Calls Tryz.prog 7 #[.int .i64 a0, .int .i64 a1] w fun e w' => e = .returned (.bool r) ∧ Below w.heap.size w w' := by
 have hu39 := Tryz.underlying39
 have HT := Aside0.mk hT
 clear hT
 have HB := Aside0.mk (Below.refl w.heap.size w)
 have H : ((stolelaw8_awake.f k).bind fun t163 => (if t163 = true then ((page_Parse.f (⟨#[60, 112, 32, 97, 61, 98, 62, 120, 60, 33, 113, 62, 60, 47, 112, 62]⟩ : ByteArray)).bind fun bt164 => ((stolelaw0_Num.f bt164.2).bind fun t168 => (if t168 = 0 then (stolelaw8_PageForms.j0 k a0 (wrap64 (1 + (Go.bits .and .i64 a1 63))) bt164.1 ((bt164.1.length : Int) != 4)) else (stolelaw8_PageForms.j0 k a0 (wrap64 (1 + (Go.bits .and .i64 a1 63))) bt164.1 true)))) else (some false))) = some r := h
 clear h
 replace H := Option.bind_eq_some_iff.mp H
 obtain ⟨t163, A30, H⟩ := H
 replace H : (if t163 = true then ((page_Parse.f (⟨#[60, 112, 32, 97, 61, 98, 62, 120, 60, 33, 113, 62, 60, 47, 112, 62]⟩ : ByteArray)).bind fun bt164 => ((stolelaw0_Num.f bt164.2).bind fun t168 => (if t168 = 0 then (stolelaw8_PageForms.j0 k a0 (wrap64 (1 + (Go.bits .and .i64 a1 63))) bt164.1 ((bt164.1.length : Int) != 4)) else (stolelaw8_PageForms.j0 k a0 (wrap64 (1 + (Go.bits .and .i64 a1 63))) bt164.1 true)))) else (some false)) = some r := H
 have A3 := Aside0.mk A30
 clear A30
 by_cases c4 : t163 = true
 ·subst c4
  have H1 : ((page_Parse.f (⟨#[60, 112, 32, 97, 61, 98, 62, 120, 60, 33, 113, 62, 60, 47, 112, 62]⟩ : ByteArray)).bind fun bt164 => ((stolelaw0_Num.f bt164.2).bind fun t168 => (if t168 = 0 then (stolelaw8_PageForms.j0 k a0 (wrap64 (1 + (Go.bits .and .i64 a1 63))) bt164.1 ((bt164.1.length : Int) != 4)) else (stolelaw8_PageForms.j0 k a0 (wrap64 (1 + (Go.bits .and .i64 a1 63))) bt164.1 true)))) = some r := by rw [if_pos rfl] at H; exact H
  clear H
  have H := H1
  clear H1
  replace H := Option.bind_eq_some_iff.mp H
  obtain ⟨⟨t164, t165⟩, A50, H⟩ := H
  replace H : ((stolelaw0_Num.f t165).bind fun t168 => (if t168 = 0 then (stolelaw8_PageForms.j0 k a0 (wrap64 (1 + (Go.bits .and .i64 a1 63))) t164 ((t164.length : Int) != 4)) else (stolelaw8_PageForms.j0 k a0 (wrap64 (1 + (Go.bits .and .i64 a1 63))) t164 true))) = some r := H
  have A5 := Aside0.mk A50
  clear A50
  have HC6 := Aside0.mk H
  clear H
  go_enter Tryz.func7, Tryz.ntmps7
  go_upto_region 5 with (first | ((with_reducible refine gate_callee (f := 36) rfl ?_); refine goesL_ (some 12) rfl rfl Tryz.func36 (by kernel_rfl) rfl #[] rfl (by (try simp only [List.map_toArray, List.map_cons, List.map_nil]); first | done | rfl | (simp only [List.length_drop, List.length_take]; rfl)) ?_; (with_reducible refine (stolelaw8_awake.calls k  true _ (tabs_below HT.out (by repeat (first | (with_reducible first | exact HB.out | apply below_alloc | apply pw_below_drewN | apply below_drew1) | exact HB.out))) A3.out rfl).mono ?_); rintro e w7 ⟨rfl, hb⟩; refine ⟨_, rfl, ?_⟩; have n0_ := Aside0.mk (below_step (by repeat (first | (with_reducible first | exact HB.out | apply below_alloc | apply pw_below_drewN | apply below_drew1) | exact HB.out)) hb); clear HB; have HB := n0_; clear n0_; (try clear hb); (try clear hb2); (try clear hk); (try clear hi)) | ((with_reducible refine gate_callee (f := 27) rfl ?_); refine goesL_ (some 18) rfl rfl Tryz.func27 (by kernel_rfl) rfl #[.string (⟨#[60, 112, 32, 97, 61, 98, 62, 120, 60, 33, 113, 62, 60, 47, 112, 62]⟩ : ByteArray)] rfl (by (try simp only [List.map_toArray, List.map_cons, List.map_nil]); first | done | rfl | (simp only [List.length_drop, List.length_take]; rfl)) ?_; (with_reducible refine (page_Parse.calls (⟨#[60, 112, 32, 97, 61, 98, 62, 120, 60, 33, 113, 62, 60, 47, 112, 62]⟩ : ByteArray) t164 t165 _ (tabs_below HT.out (by repeat (first | (with_reducible first | exact HB.out | apply below_alloc | apply pw_below_drewN | apply below_drew1) | exact HB.out))) A5.out).mono ?_); rintro e w8 ⟨v166, rfl, ho0, hb⟩; refine ⟨_, rfl, ?_⟩; have n0_ := Aside0.mk (Kd.S_lower ho0 (below_size (by repeat (first | (with_reducible first | exact HB.out | apply below_alloc | apply pw_below_drewN | apply below_drew1) | exact HB.out)))); have n1_ := Aside0.mk (below_step (by repeat (first | (with_reducible first | exact HB.out | apply below_alloc | apply pw_below_drewN | apply below_drew1) | exact HB.out)) hb); clear HB; have HO167 := n0_; have HB := n1_; clear n0_ n1_; (try clear hb); (try clear hb2); (try clear hk); (try clear hi); (try clear ho0)))
  (try simp only [Act.put, zA, zZ, zS])
  go_cut [28] (fun v28 wc => ∃ (kq : Nat) (x28_5 : Bool), v28 = .bool x28_5 ∧ Aside0 (stolelaw8_PageForms.j0 kq a0 (wrap64 (1 + (Go.bits .and .i64 a1 63))) t164 x28_5 = some r) ∧ Aside0 (kq ≤ k) ∧ Aside0 (Kd.S k69 69 wc w.heap.size (fun _ => True) v166 t164) ∧ Aside0 (Below w.heap.size w wc))
  case first =>
   have H := HC6.out
   clear HC6
   replace H := Option.bind_eq_some_iff.mp H
   obtain ⟨t168, A90, H⟩ := H
   replace H : (if t168 = 0 then (stolelaw8_PageForms.j0 k a0 (wrap64 (1 + (Go.bits .and .i64 a1 63))) t164 ((t164.length : Int) != 4)) else (stolelaw8_PageForms.j0 k a0 (wrap64 (1 + (Go.bits .and .i64 a1 63))) t164 true)) = some r := H
   have A9 := Aside0.mk A90
   clear A90
   by_cases c10 : t168 = 0
   ·rw [if_pos c10] at H
    have c10b0 : (t168 == 0) = true := beq_iff_eq.mpr c10
    have c10b1 : (t168 != 0) = false := bne_eq_false_iff_eq.mpr c10
    clear c10
    (first | rw [c10b0] | (simp only [i64_w, i32_w]; rw [c10b0]) | skip)
    have H' := Aside0.mk H
    clear H
    go_wp2_with (first | ((with_reducible refine gate_callee (f := 21) rfl ?_); refine goesL_ (some 22) rfl rfl Tryz.func21 (by kernel_rfl) rfl #[.int .i64 t165] rfl (by (try simp only [List.map_toArray, List.map_cons, List.map_nil]); first | done | rfl | (simp only [List.length_drop, List.length_take]; rfl)) ?_; (with_reducible refine (stolelaw0_Num.calls t165 t168 _ A9.out).mono ?_); rintro e w' ⟨rfl, ⟨nd, rfl⟩⟩; refine ⟨_, rfl, ?_⟩; obtain ⟨Ao11, co11, eo11⟩ := Kd.S_slice HO167.out; subst eo11))
    go_meet
    case rel => exact ⟨_, (((t164.length : Int) != 4)), (by first | rfl | (simp; done) | (simp [*]; done)), H', ⟨by first | omega | exact Nat.le_refl _⟩, ⟨by (with_reducible repeat (first | apply Kd.S_alloc | apply Kd.S_drewN | apply Kd.S_drew)); exact HO167.out⟩, ⟨by repeat (first | (with_reducible first | exact HB.out | apply below_alloc | apply pw_below_drewN | apply below_drew1) | exact HB.out)⟩⟩
   ·rw [if_neg c10] at H
    have c10b0 : (t168 == 0) = false := beq_eq_false_iff_ne.mpr c10
    have c10b1 : (t168 != 0) = true := bne_iff_ne.mpr c10
    (first | rw [c10b0] | (simp only [i64_w, i32_w]; rw [c10b0]) | skip)
    have H' := Aside0.mk H
    clear H
    go_wp2_with (first | ((with_reducible refine gate_callee (f := 21) rfl ?_); refine goesL_ (some 22) rfl rfl Tryz.func21 (by kernel_rfl) rfl #[.int .i64 t165] rfl (by (try simp only [List.map_toArray, List.map_cons, List.map_nil]); first | done | rfl | (simp only [List.length_drop, List.length_take]; rfl)) ?_; (with_reducible refine (stolelaw0_Num.calls t165 t168 _ A9.out).mono ?_); rintro e w' ⟨rfl, ⟨nd, rfl⟩⟩; refine ⟨_, rfl, ?_⟩))
    go_meet
    case rel => exact ⟨_, (true), (by first | rfl | (simp; done) | (simp [*]; done)), H', ⟨by first | omega | exact Nat.le_refl _⟩, ⟨by (with_reducible repeat (first | apply Kd.S_alloc | apply Kd.S_drewN | apply Kd.S_drew)); exact HO167.out⟩, ⟨by repeat (first | (with_reducible first | exact HB.out | apply below_alloc | apply pw_below_drewN | apply below_drew1) | exact HB.out)⟩⟩
  case rest =>
   clear HC6
   try clear c1
   try clear c2
   try clear p2
   try clear c3
   try clear c4
   try clear p6
   try clear c7
   try clear c10
   try clear c10b0
   try clear c10b1
   obtain ⟨kq, x28_5, rfl, HA, HJ5, HO_6, HB⟩ := hcut
   cases kq with
   | zero => exact absurd HA.out (by simp [stolelaw8_PageForms.j0])
   | succ kj5 =>
    have H := HA.out
    clear HA
    simp only [stolelaw8_PageForms.j0] at H
    by_cases c12 : x28_5 = true
    ·subst c12
     have H1 : (some false) = some r := by rw [if_pos rfl] at H; exact H
     clear H
     have H := H1
     clear H1
     obtain rfl := Option.some.inj H
     exact absurd hr (by simp)
    ·replace c12 := Bool.eq_false_iff.mpr c12
     subst c12
     have H1 : (if (Int.tmod (IntKind.u64.wrap (a0)) 12) = 0 then (if 0 < (t164.length : Int) then (stolelaw8_PageForms.j1 kj5 (t164.set (0 : Int).toNat (⟨(rd_T69 t164 0).f0, (rd_T69 t164 0).f1, (rd_T69 t164 0).f2, (rd_T69 t164 0).f3, 0⟩ : S69))) else (none)) else (if (Int.tmod (IntKind.u64.wrap (a0)) 12) = 1 then (if 0 < (t164.length : Int) then (stolelaw8_PageForms.j1 kj5 (t164.set (0 : Int).toNat (⟨1, (rd_T69 t164 0).f1, (rd_T69 t164 0).f2, (rd_T69 t164 0).f3, (rd_T69 t164 0).f4⟩ : S69))) else (none)) else (if (Int.tmod (IntKind.u64.wrap (a0)) 12) = 2 then (if 0 < (t164.length : Int) then (stolelaw8_PageForms.j1 kj5 (t164.set (0 : Int).toNat (⟨(rd_T69 t164 0).f0, (⟨#[120]⟩ : ByteArray), (rd_T69 t164 0).f2, (rd_T69 t164 0).f3, (rd_T69 t164 0).f4⟩ : S69))) else (none)) else (if (Int.tmod (IntKind.u64.wrap (a0)) 12) = 3 then (if 1 < (t164.length : Int) then (stolelaw8_PageForms.j1 kj5 (t164.set (1 : Int).toNat (⟨(rd_T69 t164 1).f0, (rd_T69 t164 1).f1, (rd_T69 t164 1).f2, (rd_T69 t164 1).f3, 1⟩ : S69))) else (none)) else (if (Int.tmod (IntKind.u64.wrap (a0)) 12) = 4 then (if 1 < (t164.length : Int) then (stolelaw8_PageForms.j1 kj5 (t164.set (1 : Int).toNat (⟨(rd_T69 t164 1).f0, (rd_T69 t164 1).f1, (rd_T69 t164 1).f2, (rd_T69 t164 1).f3, wrap64 (-(wrap64 (1 + (Go.bits .and .i64 a1 63))))⟩ : S69))) else (none)) else (if (Int.tmod (IntKind.u64.wrap (a0)) 12) = 5 then (if 1 < (t164.length : Int) then (stolelaw8_PageForms.j1 kj5 (t164.set (1 : Int).toNat (⟨0, (rd_T69 t164 1).f1, (rd_T69 t164 1).f2, (rd_T69 t164 1).f3, (rd_T69 t164 1).f4⟩ : S69))) else (none)) else (if (Int.tmod (IntKind.u64.wrap (a0)) 12) = 6 then (if 1 < (t164.length : Int) then (stolelaw8_PageForms.j1 kj5 (t164.set (1 : Int).toNat (⟨(rd_T69 t164 1).f0, (rd_T69 t164 1).f1, (⟨#[120]⟩ : ByteArray), (rd_T69 t164 1).f3, (rd_T69 t164 1).f4⟩ : S69))) else (none)) else (if (Int.tmod (IntKind.u64.wrap (a0)) 12) = 7 then (if 2 < (t164.length : Int) then (stolelaw8_PageForms.j1 kj5 (t164.set (2 : Int).toNat (⟨(rd_T69 t164 2).f0, (⟨#[120]⟩ : ByteArray), (rd_T69 t164 2).f2, (rd_T69 t164 2).f3, (rd_T69 t164 2).f4⟩ : S69))) else (none)) else (if (Int.tmod (IntKind.u64.wrap (a0)) 12) = 8 then (if 3 < (t164.length : Int) then (stolelaw8_PageForms.j1 kj5 (t164.set (3 : Int).toNat (⟨(rd_T69 t164 3).f0, (rd_T69 t164 3).f1, (rd_T69 t164 3).f2, (rd_T69 t164 3).f3, 2⟩ : S69))) else (none)) else (if (Int.tmod (IntKind.u64.wrap (a0)) 12) = 9 then (if 2 < (t164.length : Int) then (stolelaw8_PageForms.j1 kj5 (t164.set (2 : Int).toNat (⟨wrap64 (3 + (wrap64 (1 + (Go.bits .and .i64 a1 63)))), (rd_T69 t164 2).f1, (rd_T69 t164 2).f2, (rd_T69 t164 2).f3, (rd_T69 t164 2).f4⟩ : S69))) else (none)) else (if (Int.tmod (IntKind.u64.wrap (a0)) 12) = 10 then (if 2 < (t164.length : Int) then (stolelaw8_PageForms.j1 kj5 (t164.set (2 : Int).toNat (⟨(rd_T69 t164 2).f0, (rd_T69 t164 2).f1, (rd_T69 t164 2).f2, (([(⟨(⟨#[]⟩ : ByteArray), (⟨#[]⟩ : ByteArray)⟩ : S39)] : List (S39))), (rd_T69 t164 2).f4⟩ : S69))) else (none)) else (stolelaw8_PageForms.j1 kj5 ([] : List (S69)))))))))))))) = some r := by rw [if_neg (show ¬ (false = true) by decide)] at H; exact H
     clear H
     have H := H1
     clear H1
     have HC13 := Aside0.mk H
     clear H
     go_upto_block 0 with (fail)
     go_cut [6] (fun v6 wc => ∃ (kq : Nat) (x6_12 : List (S69)), Aside0 (stolelaw8_PageForms.j1 kq x6_12 = some r) ∧ Aside0 (kq ≤ kj5) ∧ Aside0 (Kd.S k69 69 wc w.heap.size (fun _ => True) v6 x6_12) ∧ Aside0 (Below w.heap.size w wc))
     case first =>
      have H := HC13.out
      clear HC13
      by_cases c14 : (Int.tmod (IntKind.u64.wrap (a0)) 12) = 0
      ·rw [if_pos c14] at H
       have c14b0 : ((Int.tmod (IntKind.u64.wrap (a0)) 12) == 0) = true := beq_iff_eq.mpr c14
       have c14b1 : ((Int.tmod (IntKind.u64.wrap (a0)) 12) != 0) = false := bne_eq_false_iff_eq.mpr c14
       clear c14
       (first | rw [c14b0] | (simp only [i64_w, i32_w]; rw [c14b0]) | skip)
       by_cases c15 : 0 < (t164.length : Int)
       ·rw [if_pos c15] at H
        have c15b0 : decide (0 < (t164.length : Int)) = true := decide_eq_true c15
        have c15b1 : decide (0 < t164.length) = true := decide_eq_true (by omega)
        clear c15
        obtain ⟨y169, hy169⟩ : ∃ y_ : List (S69), y_ = (t164.set (0 : Int).toNat (⟨(rd_T69 t164 0).f0, (rd_T69 t164 0).f1, (rd_T69 t164 0).f2, (rd_T69 t164 0).f3, 0⟩ : S69)) := ⟨_, rfl⟩
        replace H : (stolelaw8_PageForms.j1 kj5 y169) = some r := by first | (rw [hy169]; with_reducible exact H) | (have H2_ := (Option.bind_some _ _).symm.trans H; rw [hy169]; with_reducible exact H2_) | (have H2_ := (Option.bind_some _ _).symm.trans H; with_reducible exact H2_) | with_reducible exact H | (rw [hy169]; exact H) | exact H
        have Ny169 := Aside0.mk hy169
        clear hy169
        have H' := Aside0.mk H
        clear H
        have p16 : 0 ≤ (0 : Int) := (by omega)
        have q16 : (0 : Int) < ((t164.length : Int) : Int) := of_decide_eq_true (by first | (with_reducible assumption) | assumption)
        have qi16 : (0 < t164.length) = True := eq_true (by omega)
        obtain ⟨go16, co16, eo16, gb16, gl16, cl16, HG16⟩ := Kd.S_form HO_6.out (by omega)
        (first | cases eo16 | (injection eo16 with ea_ en_ ec_; (first | subst ea_ | (injection ea_ with ea_; subst ea_)); subst ec_; clear en_))
        have GB16 := Aside0.mk gb16
        have GG16 := Aside0.mk HG16
        clear gb16 gl16 HG16
        obtain ⟨_, ce16, hcl16, hM16, hcc16, hfr16, _, _⟩ := Kd.S_elem HO_6.out z69 (0 : Int) p16 q16
        obtain ⟨ve16_3, rfl, ge16_3⟩ := k69_openM hM16
        have hx16_0 : wc.cell? ⟨go16, (0 : Int).toNat * 5, none⟩ = some (.int .i64 ((rd_T69 t164 0).f0)) := hcc16 0 _ rfl
        have hx16_1 : wc.cell? ⟨go16, (0 : Int).toNat * 5 + 1, none⟩ = some (.string ((rd_T69 t164 0).f1)) := hcc16 1 _ rfl
        have hx16_2 : wc.cell? ⟨go16, (0 : Int).toNat * 5 + 2, none⟩ = some (.string ((rd_T69 t164 0).f2)) := hcc16 2 _ rfl
        have hx16_3 : wc.cell? ⟨go16, (0 : Int).toNat * 5 + 3, none⟩ = some (ve16_3) := hcc16 3 _ rfl
        have hx16_4 : wc.cell? ⟨go16, (0 : Int).toNat * 5 + 4, none⟩ = some (.int .i64 ((rd_T69 t164 0).f4)) := hcc16 4 _ rfl
        have hf16_0 : wc.frozen? ⟨go16, (0 : Int).toNat * 5, none⟩ = false := hfr16 0
        have hf16_1 : wc.frozen? ⟨go16, (0 : Int).toNat * 5 + 1, none⟩ = false := hfr16 1
        have hf16_2 : wc.frozen? ⟨go16, (0 : Int).toNat * 5 + 2, none⟩ = false := hfr16 2
        have hf16_3 : wc.frozen? ⟨go16, (0 : Int).toNat * 5 + 3, none⟩ = false := hfr16 3
        have hf16_4 : wc.frozen? ⟨go16, (0 : Int).toNat * 5 + 4, none⟩ = false := hfr16 4
        clear hcl16 hcc16 hfr16 hM16
        (try rw [show ((0 : Int)).toNat = 0 from rfl] at hx16_0)
        (try simp only [Nat.reduceMul, Nat.zero_mul, Nat.zero_add, Nat.reduceAdd] at hx16_0)
        (try rw [show ((0 : Int)).toNat = 0 from rfl] at hf16_0)
        (try simp only [Nat.reduceMul, Nat.zero_mul, Nat.zero_add, Nat.reduceAdd] at hf16_0)
        (try rw [show ((0 : Int)).toNat = 0 from rfl] at hx16_1)
        (try simp only [Nat.reduceMul, Nat.zero_mul, Nat.zero_add, Nat.reduceAdd] at hx16_1)
        (try rw [show ((0 : Int)).toNat = 0 from rfl] at hf16_1)
        (try simp only [Nat.reduceMul, Nat.zero_mul, Nat.zero_add, Nat.reduceAdd] at hf16_1)
        (try rw [show ((0 : Int)).toNat = 0 from rfl] at hx16_2)
        (try simp only [Nat.reduceMul, Nat.zero_mul, Nat.zero_add, Nat.reduceAdd] at hx16_2)
        (try rw [show ((0 : Int)).toNat = 0 from rfl] at hf16_2)
        (try simp only [Nat.reduceMul, Nat.zero_mul, Nat.zero_add, Nat.reduceAdd] at hf16_2)
        (try rw [show ((0 : Int)).toNat = 0 from rfl] at hx16_3)
        (try simp only [Nat.reduceMul, Nat.zero_mul, Nat.zero_add, Nat.reduceAdd] at hx16_3)
        (try rw [show ((0 : Int)).toNat = 0 from rfl] at hf16_3)
        (try simp only [Nat.reduceMul, Nat.zero_mul, Nat.zero_add, Nat.reduceAdd] at hf16_3)
        (try rw [show ((0 : Int)).toNat = 0 from rfl] at hx16_4)
        (try simp only [Nat.reduceMul, Nat.zero_mul, Nat.zero_add, Nat.reduceAdd] at hx16_4)
        (try rw [show ((0 : Int)).toNat = 0 from rfl] at hf16_4)
        (try simp only [Nat.reduceMul, Nat.zero_mul, Nat.zero_add, Nat.reduceAdd] at hf16_4)
        replace p16 := eq_true p16
        replace q16 := eq_true q16
        have HX17 := Aside0.mk (show Kd.S k69 69 wc w.heap.size (fun k_ => ((fun _ => True)) k_ ∧ ¬ ((fun _ => False)) k_) (.slice (some ⟨go16, 0, none⟩) t164.length co16) t164 from (by (with_reducible repeat (first | apply Kd.S_alloc | apply Kd.S_drewN | apply Kd.S_drew)); exact Kd.S_mono HO_6.out (fun k_ hk => ⟨trivial, fun e_ => e_⟩)))
        obtain ⟨oki17, ce17, hcl17, hM17, hcc17, hfr17, hoki17, hH17⟩ := Kd.S_elem HX17.out z69 (0 : Int) (by omega) (by have h_ : (0 : Int) < ((t164.length : Int) : Int) := of_decide_eq_true (by first | (with_reducible assumption) | assumption); first | exact h_ | (have e_ := (Kd.S_reads' HO_6.out).1; omega) | simpa using h_)
        obtain ⟨ve17_3, rfl, ge17_3⟩ := k69_openM hM17
        have HP17 := Kd.S_seg hH17 (by omega) (by have h_ : (0 : Int) < ((t164.length : Int) : Int) := of_decide_eq_true (by first | (with_reducible assumption) | assumption); first | exact h_ | (have e_ := (Kd.S_reads' HO_6.out).1; omega) | simpa using h_) (seg := [.int .i64 0]) (j := 4) (show 5 ≤ 5 from by decide) (x' := (⟨(rd_T69 t164 0).f0, (rd_T69 t164 0).f1, (rd_T69 t164 0).f2, (rd_T69 t164 0).f3, 0⟩ : S69)) (k69_mkM _ _ _ (⟨(rd_T69 t164 0).f0, (rd_T69 t164 0).f1, (rd_T69 t164 0).f2, (rd_T69 t164 0).f3, 0⟩ : S69) (Kd.R_mono ge17_3 (fun _ h_ => Or.inl h_))) (fun _ hk => hk) (fun k_ hk_ => hk_.elim)
        have hx17_4 := hcc17 4 _ rfl
        (try simp only [show (k69).sz = 5 from rfl, Nat.mul_one, Nat.add_zero] at hx17_4)
        (try rw [show ((0 : Int)).toNat = 0 from rfl] at hx17_4)
        (try simp only [Nat.reduceMul, Nat.zero_mul, Nat.zero_add, Nat.reduceAdd] at hx17_4)
        have hf17_4 := hfr17 4
        (try simp only [show (k69).sz = 5 from rfl, Nat.mul_one, Nat.add_zero] at hf17_4)
        (try rw [show ((0 : Int)).toNat = 0 from rfl] at hf17_4)
        (try simp only [Nat.reduceMul, Nat.zero_mul, Nat.zero_add, Nat.reduceAdd] at hf17_4)
        clear hcl17 hcc17 hfr17 hM17 hoki17 hH17
        go_wp2_with (first | ((with_reducible refine gate_store (t := 3) (p := 36) rfl ?_); refine store_event (t := 3) (p := 36) (v := ?vo_w18) (w1 := (wc.setCell ⟨go16, 4, none⟩ (.int .i64 0))) ?hg ?ho ?hn ?hr ?_; (case ho => rfl); (case hg => rfl); (case hn => rfl); (case hr => first | (go_simp; done) | (go_simp; rfl)); intro w18 hw; have hg : wc.grownBy w18 (some go16) := (by rw [hw]; exact HP17.2); have hp_ : Kd.S k69 69 w18 w.heap.size (fun _ => True) (.slice (some ⟨go16, 0, none⟩) t164.length co16) y169 := (by rw [hw, Ny169.out]; exact HP17.1); clear HP17; have n0_ := Aside0.mk (hp_); have n1_ := Aside0.mk ((by rw [hw]; exact below_set (HB.out) GB16.out : Below w.heap.size w w18)); clear HO_6; clear HB; have HO_6 := n0_; have HB := n1_; clear n0_ n1_; clear hg hw hp_))
        go_meet
        case rel => exact ⟨_, (y169), H', ⟨by have := HJ5.out; first | omega | exact Nat.le_refl _⟩, ⟨by (with_reducible repeat (first | apply Kd.S_alloc | apply Kd.S_drewN | apply Kd.S_drew)); exact HO_6.out⟩, ⟨by repeat (first | (with_reducible first | exact HB.out | apply below_alloc | apply pw_below_drewN | apply below_drew1) | exact HB.out)⟩⟩
       ·rw [if_neg c15] at H
        exact absurd H (by simp)
      ·rw [if_neg c14] at H
       have c14b0 : ((Int.tmod (IntKind.u64.wrap (a0)) 12) == 0) = false := beq_eq_false_iff_ne.mpr c14
       have c14b1 : ((Int.tmod (IntKind.u64.wrap (a0)) 12) != 0) = true := bne_iff_ne.mpr c14
       (first | rw [c14b0] | (simp only [i64_w, i32_w]; rw [c14b0]) | skip)
       by_cases c19 : (Int.tmod (IntKind.u64.wrap (a0)) 12) = 1
       ·rw [if_pos c19] at H
        have c19b0 : ((Int.tmod (IntKind.u64.wrap (a0)) 12) == 1) = true := beq_iff_eq.mpr c19
        have c19b1 : ((Int.tmod (IntKind.u64.wrap (a0)) 12) != 1) = false := bne_eq_false_iff_eq.mpr c19
        clear c19
        by_cases c20 : 0 < (t164.length : Int)
        ·rw [if_pos c20] at H
         have c20b0 : decide (0 < (t164.length : Int)) = true := decide_eq_true c20
         have c20b1 : decide (0 < t164.length) = true := decide_eq_true (by omega)
         clear c20
         obtain ⟨y170, hy170⟩ : ∃ y_ : List (S69), y_ = (t164.set (0 : Int).toNat (⟨1, (rd_T69 t164 0).f1, (rd_T69 t164 0).f2, (rd_T69 t164 0).f3, (rd_T69 t164 0).f4⟩ : S69)) := ⟨_, rfl⟩
         replace H : (stolelaw8_PageForms.j1 kj5 y170) = some r := by first | (rw [hy170]; with_reducible exact H) | (have H2_ := (Option.bind_some _ _).symm.trans H; rw [hy170]; with_reducible exact H2_) | (have H2_ := (Option.bind_some _ _).symm.trans H; with_reducible exact H2_) | with_reducible exact H | (rw [hy170]; exact H) | exact H
         have Ny170 := Aside0.mk hy170
         clear hy170
         have H' := Aside0.mk H
         clear H
         have p21 : 0 ≤ (0 : Int) := (by omega)
         have q21 : (0 : Int) < ((t164.length : Int) : Int) := of_decide_eq_true (by first | (with_reducible assumption) | assumption)
         have qi21 : (0 < t164.length) = True := eq_true (by omega)
         obtain ⟨go21, co21, eo21, gb21, gl21, cl21, HG21⟩ := Kd.S_form HO_6.out (by omega)
         (first | cases eo21 | (injection eo21 with ea_ en_ ec_; (first | subst ea_ | (injection ea_ with ea_; subst ea_)); subst ec_; clear en_))
         have GB21 := Aside0.mk gb21
         have GG21 := Aside0.mk HG21
         clear gb21 gl21 HG21
         obtain ⟨_, ce21, hcl21, hM21, hcc21, hfr21, _, _⟩ := Kd.S_elem HO_6.out z69 (0 : Int) p21 q21
         obtain ⟨ve21_3, rfl, ge21_3⟩ := k69_openM hM21
         have hx21_0 : wc.cell? ⟨go21, (0 : Int).toNat * 5, none⟩ = some (.int .i64 ((rd_T69 t164 0).f0)) := hcc21 0 _ rfl
         have hx21_1 : wc.cell? ⟨go21, (0 : Int).toNat * 5 + 1, none⟩ = some (.string ((rd_T69 t164 0).f1)) := hcc21 1 _ rfl
         have hx21_2 : wc.cell? ⟨go21, (0 : Int).toNat * 5 + 2, none⟩ = some (.string ((rd_T69 t164 0).f2)) := hcc21 2 _ rfl
         have hx21_3 : wc.cell? ⟨go21, (0 : Int).toNat * 5 + 3, none⟩ = some (ve21_3) := hcc21 3 _ rfl
         have hx21_4 : wc.cell? ⟨go21, (0 : Int).toNat * 5 + 4, none⟩ = some (.int .i64 ((rd_T69 t164 0).f4)) := hcc21 4 _ rfl
         have hf21_0 : wc.frozen? ⟨go21, (0 : Int).toNat * 5, none⟩ = false := hfr21 0
         have hf21_1 : wc.frozen? ⟨go21, (0 : Int).toNat * 5 + 1, none⟩ = false := hfr21 1
         have hf21_2 : wc.frozen? ⟨go21, (0 : Int).toNat * 5 + 2, none⟩ = false := hfr21 2
         have hf21_3 : wc.frozen? ⟨go21, (0 : Int).toNat * 5 + 3, none⟩ = false := hfr21 3
         have hf21_4 : wc.frozen? ⟨go21, (0 : Int).toNat * 5 + 4, none⟩ = false := hfr21 4
         clear hcl21 hcc21 hfr21 hM21
         (try rw [show ((0 : Int)).toNat = 0 from rfl] at hx21_0)
         (try simp only [Nat.reduceMul, Nat.zero_mul, Nat.zero_add, Nat.reduceAdd] at hx21_0)
         (try rw [show ((0 : Int)).toNat = 0 from rfl] at hf21_0)
         (try simp only [Nat.reduceMul, Nat.zero_mul, Nat.zero_add, Nat.reduceAdd] at hf21_0)
         (try rw [show ((0 : Int)).toNat = 0 from rfl] at hx21_1)
         (try simp only [Nat.reduceMul, Nat.zero_mul, Nat.zero_add, Nat.reduceAdd] at hx21_1)
         (try rw [show ((0 : Int)).toNat = 0 from rfl] at hf21_1)
         (try simp only [Nat.reduceMul, Nat.zero_mul, Nat.zero_add, Nat.reduceAdd] at hf21_1)
         (try rw [show ((0 : Int)).toNat = 0 from rfl] at hx21_2)
         (try simp only [Nat.reduceMul, Nat.zero_mul, Nat.zero_add, Nat.reduceAdd] at hx21_2)
         (try rw [show ((0 : Int)).toNat = 0 from rfl] at hf21_2)
         (try simp only [Nat.reduceMul, Nat.zero_mul, Nat.zero_add, Nat.reduceAdd] at hf21_2)
         (try rw [show ((0 : Int)).toNat = 0 from rfl] at hx21_3)
         (try simp only [Nat.reduceMul, Nat.zero_mul, Nat.zero_add, Nat.reduceAdd] at hx21_3)
         (try rw [show ((0 : Int)).toNat = 0 from rfl] at hf21_3)
         (try simp only [Nat.reduceMul, Nat.zero_mul, Nat.zero_add, Nat.reduceAdd] at hf21_3)
         (try rw [show ((0 : Int)).toNat = 0 from rfl] at hx21_4)
         (try simp only [Nat.reduceMul, Nat.zero_mul, Nat.zero_add, Nat.reduceAdd] at hx21_4)
         (try rw [show ((0 : Int)).toNat = 0 from rfl] at hf21_4)
         (try simp only [Nat.reduceMul, Nat.zero_mul, Nat.zero_add, Nat.reduceAdd] at hf21_4)
         replace p21 := eq_true p21
         replace q21 := eq_true q21
         have HX22 := Aside0.mk (show Kd.S k69 69 wc w.heap.size (fun k_ => ((fun _ => True)) k_ ∧ ¬ ((fun _ => False)) k_) (.slice (some ⟨go21, 0, none⟩) t164.length co21) t164 from (by (with_reducible repeat (first | apply Kd.S_alloc | apply Kd.S_drewN | apply Kd.S_drew)); exact Kd.S_mono HO_6.out (fun k_ hk => ⟨trivial, fun e_ => e_⟩)))
         obtain ⟨oki22, ce22, hcl22, hM22, hcc22, hfr22, hoki22, hH22⟩ := Kd.S_elem HX22.out z69 (0 : Int) (by omega) (by have h_ : (0 : Int) < ((t164.length : Int) : Int) := of_decide_eq_true (by first | (with_reducible assumption) | assumption); first | exact h_ | (have e_ := (Kd.S_reads' HO_6.out).1; omega) | simpa using h_)
         obtain ⟨ve22_3, rfl, ge22_3⟩ := k69_openM hM22
         have HP22 := Kd.S_seg hH22 (by omega) (by have h_ : (0 : Int) < ((t164.length : Int) : Int) := of_decide_eq_true (by first | (with_reducible assumption) | assumption); first | exact h_ | (have e_ := (Kd.S_reads' HO_6.out).1; omega) | simpa using h_) (seg := [.int .i64 1]) (j := 0) (show 1 ≤ 5 from by decide) (x' := (⟨1, (rd_T69 t164 0).f1, (rd_T69 t164 0).f2, (rd_T69 t164 0).f3, (rd_T69 t164 0).f4⟩ : S69)) (k69_mkM _ _ _ (⟨1, (rd_T69 t164 0).f1, (rd_T69 t164 0).f2, (rd_T69 t164 0).f3, (rd_T69 t164 0).f4⟩ : S69) (Kd.R_mono ge22_3 (fun _ h_ => Or.inl h_))) (fun _ hk => hk) (fun k_ hk_ => hk_.elim)
         have hx22_0 := hcc22 0 _ rfl
         (try simp only [show (k69).sz = 5 from rfl, Nat.mul_one, Nat.add_zero] at hx22_0)
         (try rw [show ((0 : Int)).toNat = 0 from rfl] at hx22_0)
         (try simp only [Nat.reduceMul, Nat.zero_mul, Nat.zero_add, Nat.reduceAdd] at hx22_0)
         have hf22_0 := hfr22 0
         (try simp only [show (k69).sz = 5 from rfl, Nat.mul_one, Nat.add_zero] at hf22_0)
         (try rw [show ((0 : Int)).toNat = 0 from rfl] at hf22_0)
         (try simp only [Nat.reduceMul, Nat.zero_mul, Nat.zero_add, Nat.reduceAdd] at hf22_0)
         clear hcl22 hcc22 hfr22 hM22 hoki22 hH22
         go_wp2_with (first | ((with_reducible refine gate_store (t := 3) (p := 41) rfl ?_); refine store_event (t := 3) (p := 41) (v := ?vo_w23) (w1 := (wc.setCell ⟨go21, 0, none⟩ (.int .i64 1))) ?hg ?ho ?hn ?hr ?_; (case ho => rfl); (case hg => rfl); (case hn => rfl); (case hr => first | (go_simp; done) | (go_simp; rfl)); intro w23 hw; have hg : wc.grownBy w23 (some go21) := (by rw [hw]; exact HP22.2); have hp_ : Kd.S k69 69 w23 w.heap.size (fun _ => True) (.slice (some ⟨go21, 0, none⟩) t164.length co21) y170 := (by rw [hw, Ny170.out]; exact HP22.1); clear HP22; have n0_ := Aside0.mk (hp_); have n1_ := Aside0.mk ((by rw [hw]; exact below_set (HB.out) GB21.out : Below w.heap.size w w23)); clear HO_6; clear HB; have HO_6 := n0_; have HB := n1_; clear n0_ n1_; clear hg hw hp_))
         go_meet
         case rel => exact ⟨_, (y170), H', ⟨by have := HJ5.out; first | omega | exact Nat.le_refl _⟩, ⟨by (with_reducible repeat (first | apply Kd.S_alloc | apply Kd.S_drewN | apply Kd.S_drew)); exact HO_6.out⟩, ⟨by repeat (first | (with_reducible first | exact HB.out | apply below_alloc | apply pw_below_drewN | apply below_drew1) | exact HB.out)⟩⟩
        ·rw [if_neg c20] at H
         exact absurd H (by simp)
       ·rw [if_neg c19] at H
        have c19b0 : ((Int.tmod (IntKind.u64.wrap (a0)) 12) == 1) = false := beq_eq_false_iff_ne.mpr c19
        have c19b1 : ((Int.tmod (IntKind.u64.wrap (a0)) 12) != 1) = true := bne_iff_ne.mpr c19
        by_cases c24 : (Int.tmod (IntKind.u64.wrap (a0)) 12) = 2
        ·rw [if_pos c24] at H
         have c24b0 : ((Int.tmod (IntKind.u64.wrap (a0)) 12) == 2) = true := beq_iff_eq.mpr c24
         have c24b1 : ((Int.tmod (IntKind.u64.wrap (a0)) 12) != 2) = false := bne_eq_false_iff_eq.mpr c24
         clear c24
         by_cases c25 : 0 < (t164.length : Int)
         ·rw [if_pos c25] at H
          have c25b0 : decide (0 < (t164.length : Int)) = true := decide_eq_true c25
          have c25b1 : decide (0 < t164.length) = true := decide_eq_true (by omega)
          clear c25
          obtain ⟨y171, hy171⟩ : ∃ y_ : List (S69), y_ = (t164.set (0 : Int).toNat (⟨(rd_T69 t164 0).f0, (⟨#[120]⟩ : ByteArray), (rd_T69 t164 0).f2, (rd_T69 t164 0).f3, (rd_T69 t164 0).f4⟩ : S69)) := ⟨_, rfl⟩
          replace H : (stolelaw8_PageForms.j1 kj5 y171) = some r := by first | (rw [hy171]; with_reducible exact H) | (have H2_ := (Option.bind_some _ _).symm.trans H; rw [hy171]; with_reducible exact H2_) | (have H2_ := (Option.bind_some _ _).symm.trans H; with_reducible exact H2_) | with_reducible exact H | (rw [hy171]; exact H) | exact H
          have Ny171 := Aside0.mk hy171
          clear hy171
          have H' := Aside0.mk H
          clear H
          have p26 : 0 ≤ (0 : Int) := (by omega)
          have q26 : (0 : Int) < ((t164.length : Int) : Int) := of_decide_eq_true (by first | (with_reducible assumption) | assumption)
          have qi26 : (0 < t164.length) = True := eq_true (by omega)
          obtain ⟨go26, co26, eo26, gb26, gl26, cl26, HG26⟩ := Kd.S_form HO_6.out (by omega)
          (first | cases eo26 | (injection eo26 with ea_ en_ ec_; (first | subst ea_ | (injection ea_ with ea_; subst ea_)); subst ec_; clear en_))
          have GB26 := Aside0.mk gb26
          have GG26 := Aside0.mk HG26
          clear gb26 gl26 HG26
          obtain ⟨_, ce26, hcl26, hM26, hcc26, hfr26, _, _⟩ := Kd.S_elem HO_6.out z69 (0 : Int) p26 q26
          obtain ⟨ve26_3, rfl, ge26_3⟩ := k69_openM hM26
          have hx26_0 : wc.cell? ⟨go26, (0 : Int).toNat * 5, none⟩ = some (.int .i64 ((rd_T69 t164 0).f0)) := hcc26 0 _ rfl
          have hx26_1 : wc.cell? ⟨go26, (0 : Int).toNat * 5 + 1, none⟩ = some (.string ((rd_T69 t164 0).f1)) := hcc26 1 _ rfl
          have hx26_2 : wc.cell? ⟨go26, (0 : Int).toNat * 5 + 2, none⟩ = some (.string ((rd_T69 t164 0).f2)) := hcc26 2 _ rfl
          have hx26_3 : wc.cell? ⟨go26, (0 : Int).toNat * 5 + 3, none⟩ = some (ve26_3) := hcc26 3 _ rfl
          have hx26_4 : wc.cell? ⟨go26, (0 : Int).toNat * 5 + 4, none⟩ = some (.int .i64 ((rd_T69 t164 0).f4)) := hcc26 4 _ rfl
          have hf26_0 : wc.frozen? ⟨go26, (0 : Int).toNat * 5, none⟩ = false := hfr26 0
          have hf26_1 : wc.frozen? ⟨go26, (0 : Int).toNat * 5 + 1, none⟩ = false := hfr26 1
          have hf26_2 : wc.frozen? ⟨go26, (0 : Int).toNat * 5 + 2, none⟩ = false := hfr26 2
          have hf26_3 : wc.frozen? ⟨go26, (0 : Int).toNat * 5 + 3, none⟩ = false := hfr26 3
          have hf26_4 : wc.frozen? ⟨go26, (0 : Int).toNat * 5 + 4, none⟩ = false := hfr26 4
          clear hcl26 hcc26 hfr26 hM26
          (try rw [show ((0 : Int)).toNat = 0 from rfl] at hx26_0)
          (try simp only [Nat.reduceMul, Nat.zero_mul, Nat.zero_add, Nat.reduceAdd] at hx26_0)
          (try rw [show ((0 : Int)).toNat = 0 from rfl] at hf26_0)
          (try simp only [Nat.reduceMul, Nat.zero_mul, Nat.zero_add, Nat.reduceAdd] at hf26_0)
          (try rw [show ((0 : Int)).toNat = 0 from rfl] at hx26_1)
          (try simp only [Nat.reduceMul, Nat.zero_mul, Nat.zero_add, Nat.reduceAdd] at hx26_1)
          (try rw [show ((0 : Int)).toNat = 0 from rfl] at hf26_1)
          (try simp only [Nat.reduceMul, Nat.zero_mul, Nat.zero_add, Nat.reduceAdd] at hf26_1)
          (try rw [show ((0 : Int)).toNat = 0 from rfl] at hx26_2)
          (try simp only [Nat.reduceMul, Nat.zero_mul, Nat.zero_add, Nat.reduceAdd] at hx26_2)
          (try rw [show ((0 : Int)).toNat = 0 from rfl] at hf26_2)
          (try simp only [Nat.reduceMul, Nat.zero_mul, Nat.zero_add, Nat.reduceAdd] at hf26_2)
          (try rw [show ((0 : Int)).toNat = 0 from rfl] at hx26_3)
          (try simp only [Nat.reduceMul, Nat.zero_mul, Nat.zero_add, Nat.reduceAdd] at hx26_3)
          (try rw [show ((0 : Int)).toNat = 0 from rfl] at hf26_3)
          (try simp only [Nat.reduceMul, Nat.zero_mul, Nat.zero_add, Nat.reduceAdd] at hf26_3)
          (try rw [show ((0 : Int)).toNat = 0 from rfl] at hx26_4)
          (try simp only [Nat.reduceMul, Nat.zero_mul, Nat.zero_add, Nat.reduceAdd] at hx26_4)
          (try rw [show ((0 : Int)).toNat = 0 from rfl] at hf26_4)
          (try simp only [Nat.reduceMul, Nat.zero_mul, Nat.zero_add, Nat.reduceAdd] at hf26_4)
          replace p26 := eq_true p26
          replace q26 := eq_true q26
          have HX27 := Aside0.mk (show Kd.S k69 69 wc w.heap.size (fun k_ => ((fun _ => True)) k_ ∧ ¬ ((fun _ => False)) k_) (.slice (some ⟨go26, 0, none⟩) t164.length co26) t164 from (by (with_reducible repeat (first | apply Kd.S_alloc | apply Kd.S_drewN | apply Kd.S_drew)); exact Kd.S_mono HO_6.out (fun k_ hk => ⟨trivial, fun e_ => e_⟩)))
          obtain ⟨oki27, ce27, hcl27, hM27, hcc27, hfr27, hoki27, hH27⟩ := Kd.S_elem HX27.out z69 (0 : Int) (by omega) (by have h_ : (0 : Int) < ((t164.length : Int) : Int) := of_decide_eq_true (by first | (with_reducible assumption) | assumption); first | exact h_ | (have e_ := (Kd.S_reads' HO_6.out).1; omega) | simpa using h_)
          obtain ⟨ve27_3, rfl, ge27_3⟩ := k69_openM hM27
          have HP27 := Kd.S_seg hH27 (by omega) (by have h_ : (0 : Int) < ((t164.length : Int) : Int) := of_decide_eq_true (by first | (with_reducible assumption) | assumption); first | exact h_ | (have e_ := (Kd.S_reads' HO_6.out).1; omega) | simpa using h_) (seg := [.string (⟨#[120]⟩ : ByteArray)]) (j := 1) (show 2 ≤ 5 from by decide) (x' := (⟨(rd_T69 t164 0).f0, (⟨#[120]⟩ : ByteArray), (rd_T69 t164 0).f2, (rd_T69 t164 0).f3, (rd_T69 t164 0).f4⟩ : S69)) (k69_mkM _ _ _ (⟨(rd_T69 t164 0).f0, (⟨#[120]⟩ : ByteArray), (rd_T69 t164 0).f2, (rd_T69 t164 0).f3, (rd_T69 t164 0).f4⟩ : S69) (Kd.R_mono ge27_3 (fun _ h_ => Or.inl h_))) (fun _ hk => hk) (fun k_ hk_ => hk_.elim)
          have hx27_1 := hcc27 1 _ rfl
          (try simp only [show (k69).sz = 5 from rfl, Nat.mul_one, Nat.add_zero] at hx27_1)
          (try rw [show ((0 : Int)).toNat = 0 from rfl] at hx27_1)
          (try simp only [Nat.reduceMul, Nat.zero_mul, Nat.zero_add, Nat.reduceAdd] at hx27_1)
          have hf27_1 := hfr27 1
          (try simp only [show (k69).sz = 5 from rfl, Nat.mul_one, Nat.add_zero] at hf27_1)
          (try rw [show ((0 : Int)).toNat = 0 from rfl] at hf27_1)
          (try simp only [Nat.reduceMul, Nat.zero_mul, Nat.zero_add, Nat.reduceAdd] at hf27_1)
          clear hcl27 hcc27 hfr27 hM27 hoki27 hH27
          go_wp2_with (first | ((with_reducible refine gate_store (t := 9) (p := 46) rfl ?_); refine store_event (t := 9) (p := 46) (v := ?vo_w28) (w1 := (wc.setCell ⟨go26, 1, none⟩ (.string (⟨#[120]⟩ : ByteArray)))) ?hg ?ho ?hn ?hr ?_; (case ho => rfl); (case hg => rfl); (case hn => rfl); (case hr => first | (go_simp; done) | (go_simp; rfl)); intro w28 hw; have hg : wc.grownBy w28 (some go26) := (by rw [hw]; exact HP27.2); have hp_ : Kd.S k69 69 w28 w.heap.size (fun _ => True) (.slice (some ⟨go26, 0, none⟩) t164.length co26) y171 := (by rw [hw, Ny171.out]; exact HP27.1); clear HP27; have n0_ := Aside0.mk (hp_); have n1_ := Aside0.mk ((by rw [hw]; exact below_set (HB.out) GB26.out : Below w.heap.size w w28)); clear HO_6; clear HB; have HO_6 := n0_; have HB := n1_; clear n0_ n1_; clear hg hw hp_))
          go_meet
          case rel => exact ⟨_, (y171), H', ⟨by have := HJ5.out; first | omega | exact Nat.le_refl _⟩, ⟨by (with_reducible repeat (first | apply Kd.S_alloc | apply Kd.S_drewN | apply Kd.S_drew)); exact HO_6.out⟩, ⟨by repeat (first | (with_reducible first | exact HB.out | apply below_alloc | apply pw_below_drewN | apply below_drew1) | exact HB.out)⟩⟩
         ·rw [if_neg c25] at H
          exact absurd H (by simp)
        ·rw [if_neg c24] at H
         have c24b0 : ((Int.tmod (IntKind.u64.wrap (a0)) 12) == 2) = false := beq_eq_false_iff_ne.mpr c24
         have c24b1 : ((Int.tmod (IntKind.u64.wrap (a0)) 12) != 2) = true := bne_iff_ne.mpr c24
         by_cases c29 : (Int.tmod (IntKind.u64.wrap (a0)) 12) = 3
         ·rw [if_pos c29] at H
          have c29b0 : ((Int.tmod (IntKind.u64.wrap (a0)) 12) == 3) = true := beq_iff_eq.mpr c29
          have c29b1 : ((Int.tmod (IntKind.u64.wrap (a0)) 12) != 3) = false := bne_eq_false_iff_eq.mpr c29
          clear c29
          by_cases c30 : 1 < (t164.length : Int)
          ·rw [if_pos c30] at H
           have c30b0 : decide (1 < (t164.length : Int)) = true := decide_eq_true c30
           have c30b1 : decide (1 < t164.length) = true := decide_eq_true (by omega)
           clear c30
           obtain ⟨y172, hy172⟩ : ∃ y_ : List (S69), y_ = (t164.set (1 : Int).toNat (⟨(rd_T69 t164 1).f0, (rd_T69 t164 1).f1, (rd_T69 t164 1).f2, (rd_T69 t164 1).f3, 1⟩ : S69)) := ⟨_, rfl⟩
           replace H : (stolelaw8_PageForms.j1 kj5 y172) = some r := by first | (rw [hy172]; with_reducible exact H) | (have H2_ := (Option.bind_some _ _).symm.trans H; rw [hy172]; with_reducible exact H2_) | (have H2_ := (Option.bind_some _ _).symm.trans H; with_reducible exact H2_) | with_reducible exact H | (rw [hy172]; exact H) | exact H
           have Ny172 := Aside0.mk hy172
           clear hy172
           have H' := Aside0.mk H
           clear H
           have p31 : 0 ≤ (1 : Int) := (by omega)
           have q31 : (1 : Int) < ((t164.length : Int) : Int) := of_decide_eq_true (by first | (with_reducible assumption) | assumption)
           have qi31 : (1 < t164.length) = True := eq_true (by omega)
           obtain ⟨go31, co31, eo31, gb31, gl31, cl31, HG31⟩ := Kd.S_form HO_6.out (by omega)
           (first | cases eo31 | (injection eo31 with ea_ en_ ec_; (first | subst ea_ | (injection ea_ with ea_; subst ea_)); subst ec_; clear en_))
           have GB31 := Aside0.mk gb31
           have GG31 := Aside0.mk HG31
           clear gb31 gl31 HG31
           obtain ⟨_, ce31, hcl31, hM31, hcc31, hfr31, _, _⟩ := Kd.S_elem HO_6.out z69 (1 : Int) p31 q31
           obtain ⟨ve31_3, rfl, ge31_3⟩ := k69_openM hM31
           have hx31_0 : wc.cell? ⟨go31, (1 : Int).toNat * 5, none⟩ = some (.int .i64 ((rd_T69 t164 1).f0)) := hcc31 0 _ rfl
           have hx31_1 : wc.cell? ⟨go31, (1 : Int).toNat * 5 + 1, none⟩ = some (.string ((rd_T69 t164 1).f1)) := hcc31 1 _ rfl
           have hx31_2 : wc.cell? ⟨go31, (1 : Int).toNat * 5 + 2, none⟩ = some (.string ((rd_T69 t164 1).f2)) := hcc31 2 _ rfl
           have hx31_3 : wc.cell? ⟨go31, (1 : Int).toNat * 5 + 3, none⟩ = some (ve31_3) := hcc31 3 _ rfl
           have hx31_4 : wc.cell? ⟨go31, (1 : Int).toNat * 5 + 4, none⟩ = some (.int .i64 ((rd_T69 t164 1).f4)) := hcc31 4 _ rfl
           have hf31_0 : wc.frozen? ⟨go31, (1 : Int).toNat * 5, none⟩ = false := hfr31 0
           have hf31_1 : wc.frozen? ⟨go31, (1 : Int).toNat * 5 + 1, none⟩ = false := hfr31 1
           have hf31_2 : wc.frozen? ⟨go31, (1 : Int).toNat * 5 + 2, none⟩ = false := hfr31 2
           have hf31_3 : wc.frozen? ⟨go31, (1 : Int).toNat * 5 + 3, none⟩ = false := hfr31 3
           have hf31_4 : wc.frozen? ⟨go31, (1 : Int).toNat * 5 + 4, none⟩ = false := hfr31 4
           clear hcl31 hcc31 hfr31 hM31
           (try rw [show ((1 : Int)).toNat = 1 from rfl] at hx31_0)
           (try simp only [Nat.reduceMul, Nat.zero_mul, Nat.zero_add, Nat.reduceAdd] at hx31_0)
           (try rw [show ((1 : Int)).toNat = 1 from rfl] at hf31_0)
           (try simp only [Nat.reduceMul, Nat.zero_mul, Nat.zero_add, Nat.reduceAdd] at hf31_0)
           (try rw [show ((1 : Int)).toNat = 1 from rfl] at hx31_1)
           (try simp only [Nat.reduceMul, Nat.zero_mul, Nat.zero_add, Nat.reduceAdd] at hx31_1)
           (try rw [show ((1 : Int)).toNat = 1 from rfl] at hf31_1)
           (try simp only [Nat.reduceMul, Nat.zero_mul, Nat.zero_add, Nat.reduceAdd] at hf31_1)
           (try rw [show ((1 : Int)).toNat = 1 from rfl] at hx31_2)
           (try simp only [Nat.reduceMul, Nat.zero_mul, Nat.zero_add, Nat.reduceAdd] at hx31_2)
           (try rw [show ((1 : Int)).toNat = 1 from rfl] at hf31_2)
           (try simp only [Nat.reduceMul, Nat.zero_mul, Nat.zero_add, Nat.reduceAdd] at hf31_2)
           (try rw [show ((1 : Int)).toNat = 1 from rfl] at hx31_3)
           (try simp only [Nat.reduceMul, Nat.zero_mul, Nat.zero_add, Nat.reduceAdd] at hx31_3)
           (try rw [show ((1 : Int)).toNat = 1 from rfl] at hf31_3)
           (try simp only [Nat.reduceMul, Nat.zero_mul, Nat.zero_add, Nat.reduceAdd] at hf31_3)
           (try rw [show ((1 : Int)).toNat = 1 from rfl] at hx31_4)
           (try simp only [Nat.reduceMul, Nat.zero_mul, Nat.zero_add, Nat.reduceAdd] at hx31_4)
           (try rw [show ((1 : Int)).toNat = 1 from rfl] at hf31_4)
           (try simp only [Nat.reduceMul, Nat.zero_mul, Nat.zero_add, Nat.reduceAdd] at hf31_4)
           replace p31 := eq_true p31
           replace q31 := eq_true q31
           have HX32 := Aside0.mk (show Kd.S k69 69 wc w.heap.size (fun k_ => ((fun _ => True)) k_ ∧ ¬ ((fun _ => False)) k_) (.slice (some ⟨go31, 0, none⟩) t164.length co31) t164 from (by (with_reducible repeat (first | apply Kd.S_alloc | apply Kd.S_drewN | apply Kd.S_drew)); exact Kd.S_mono HO_6.out (fun k_ hk => ⟨trivial, fun e_ => e_⟩)))
           obtain ⟨oki32, ce32, hcl32, hM32, hcc32, hfr32, hoki32, hH32⟩ := Kd.S_elem HX32.out z69 (1 : Int) (by omega) (by have h_ : (1 : Int) < ((t164.length : Int) : Int) := of_decide_eq_true (by first | (with_reducible assumption) | assumption); first | exact h_ | (have e_ := (Kd.S_reads' HO_6.out).1; omega) | simpa using h_)
           obtain ⟨ve32_3, rfl, ge32_3⟩ := k69_openM hM32
           have HP32 := Kd.S_seg hH32 (by omega) (by have h_ : (1 : Int) < ((t164.length : Int) : Int) := of_decide_eq_true (by first | (with_reducible assumption) | assumption); first | exact h_ | (have e_ := (Kd.S_reads' HO_6.out).1; omega) | simpa using h_) (seg := [.int .i64 1]) (j := 4) (show 5 ≤ 5 from by decide) (x' := (⟨(rd_T69 t164 1).f0, (rd_T69 t164 1).f1, (rd_T69 t164 1).f2, (rd_T69 t164 1).f3, 1⟩ : S69)) (k69_mkM _ _ _ (⟨(rd_T69 t164 1).f0, (rd_T69 t164 1).f1, (rd_T69 t164 1).f2, (rd_T69 t164 1).f3, 1⟩ : S69) (Kd.R_mono ge32_3 (fun _ h_ => Or.inl h_))) (fun _ hk => hk) (fun k_ hk_ => hk_.elim)
           have hx32_4 := hcc32 4 _ rfl
           (try simp only [show (k69).sz = 5 from rfl, Nat.mul_one, Nat.add_zero] at hx32_4)
           (try rw [show ((1 : Int)).toNat = 1 from rfl] at hx32_4)
           (try simp only [Nat.reduceMul, Nat.zero_mul, Nat.zero_add, Nat.reduceAdd] at hx32_4)
           have hf32_4 := hfr32 4
           (try simp only [show (k69).sz = 5 from rfl, Nat.mul_one, Nat.add_zero] at hf32_4)
           (try rw [show ((1 : Int)).toNat = 1 from rfl] at hf32_4)
           (try simp only [Nat.reduceMul, Nat.zero_mul, Nat.zero_add, Nat.reduceAdd] at hf32_4)
           clear hcl32 hcc32 hfr32 hM32 hoki32 hH32
           go_wp2_with (first | ((with_reducible refine gate_store (t := 3) (p := 51) rfl ?_); refine store_event (t := 3) (p := 51) (v := ?vo_w33) (w1 := (wc.setCell ⟨go31, 9, none⟩ (.int .i64 1))) ?hg ?ho ?hn ?hr ?_; (case ho => rfl); (case hg => rfl); (case hn => rfl); (case hr => first | (go_simp; done) | (go_simp; rfl)); intro w33 hw; have hg : wc.grownBy w33 (some go31) := (by rw [hw]; exact HP32.2); have hp_ : Kd.S k69 69 w33 w.heap.size (fun _ => True) (.slice (some ⟨go31, 0, none⟩) t164.length co31) y172 := (by rw [hw, Ny172.out]; exact HP32.1); clear HP32; have n0_ := Aside0.mk (hp_); have n1_ := Aside0.mk ((by rw [hw]; exact below_set (HB.out) GB31.out : Below w.heap.size w w33)); clear HO_6; clear HB; have HO_6 := n0_; have HB := n1_; clear n0_ n1_; clear hg hw hp_))
           go_meet
           case rel => exact ⟨_, (y172), H', ⟨by have := HJ5.out; first | omega | exact Nat.le_refl _⟩, ⟨by (with_reducible repeat (first | apply Kd.S_alloc | apply Kd.S_drewN | apply Kd.S_drew)); exact HO_6.out⟩, ⟨by repeat (first | (with_reducible first | exact HB.out | apply below_alloc | apply pw_below_drewN | apply below_drew1) | exact HB.out)⟩⟩
          ·rw [if_neg c30] at H
           exact absurd H (by simp)
         ·rw [if_neg c29] at H
          have c29b0 : ((Int.tmod (IntKind.u64.wrap (a0)) 12) == 3) = false := beq_eq_false_iff_ne.mpr c29
          have c29b1 : ((Int.tmod (IntKind.u64.wrap (a0)) 12) != 3) = true := bne_iff_ne.mpr c29
          by_cases c34 : (Int.tmod (IntKind.u64.wrap (a0)) 12) = 4
          ·rw [if_pos c34] at H
           have c34b0 : ((Int.tmod (IntKind.u64.wrap (a0)) 12) == 4) = true := beq_iff_eq.mpr c34
           have c34b1 : ((Int.tmod (IntKind.u64.wrap (a0)) 12) != 4) = false := bne_eq_false_iff_eq.mpr c34
           clear c34
           by_cases c35 : 1 < (t164.length : Int)
           ·rw [if_pos c35] at H
            have c35b0 : decide (1 < (t164.length : Int)) = true := decide_eq_true c35
            have c35b1 : decide (1 < t164.length) = true := decide_eq_true (by omega)
            clear c35
            obtain ⟨y173, hy173⟩ : ∃ y_ : List (S69), y_ = (t164.set (1 : Int).toNat (⟨(rd_T69 t164 1).f0, (rd_T69 t164 1).f1, (rd_T69 t164 1).f2, (rd_T69 t164 1).f3, wrap64 (-(wrap64 (1 + (Go.bits .and .i64 a1 63))))⟩ : S69)) := ⟨_, rfl⟩
            replace H : (stolelaw8_PageForms.j1 kj5 y173) = some r := by first | (rw [hy173]; with_reducible exact H) | (have H2_ := (Option.bind_some _ _).symm.trans H; rw [hy173]; with_reducible exact H2_) | (have H2_ := (Option.bind_some _ _).symm.trans H; with_reducible exact H2_) | with_reducible exact H | (rw [hy173]; exact H) | exact H
            have Ny173 := Aside0.mk hy173
            clear hy173
            have H' := Aside0.mk H
            clear H
            have p36 : 0 ≤ (1 : Int) := (by omega)
            have q36 : (1 : Int) < ((t164.length : Int) : Int) := of_decide_eq_true (by first | (with_reducible assumption) | assumption)
            have qi36 : (1 < t164.length) = True := eq_true (by omega)
            obtain ⟨go36, co36, eo36, gb36, gl36, cl36, HG36⟩ := Kd.S_form HO_6.out (by omega)
            (first | cases eo36 | (injection eo36 with ea_ en_ ec_; (first | subst ea_ | (injection ea_ with ea_; subst ea_)); subst ec_; clear en_))
            have GB36 := Aside0.mk gb36
            have GG36 := Aside0.mk HG36
            clear gb36 gl36 HG36
            obtain ⟨_, ce36, hcl36, hM36, hcc36, hfr36, _, _⟩ := Kd.S_elem HO_6.out z69 (1 : Int) p36 q36
            obtain ⟨ve36_3, rfl, ge36_3⟩ := k69_openM hM36
            have hx36_0 : wc.cell? ⟨go36, (1 : Int).toNat * 5, none⟩ = some (.int .i64 ((rd_T69 t164 1).f0)) := hcc36 0 _ rfl
            have hx36_1 : wc.cell? ⟨go36, (1 : Int).toNat * 5 + 1, none⟩ = some (.string ((rd_T69 t164 1).f1)) := hcc36 1 _ rfl
            have hx36_2 : wc.cell? ⟨go36, (1 : Int).toNat * 5 + 2, none⟩ = some (.string ((rd_T69 t164 1).f2)) := hcc36 2 _ rfl
            have hx36_3 : wc.cell? ⟨go36, (1 : Int).toNat * 5 + 3, none⟩ = some (ve36_3) := hcc36 3 _ rfl
            have hx36_4 : wc.cell? ⟨go36, (1 : Int).toNat * 5 + 4, none⟩ = some (.int .i64 ((rd_T69 t164 1).f4)) := hcc36 4 _ rfl
            have hf36_0 : wc.frozen? ⟨go36, (1 : Int).toNat * 5, none⟩ = false := hfr36 0
            have hf36_1 : wc.frozen? ⟨go36, (1 : Int).toNat * 5 + 1, none⟩ = false := hfr36 1
            have hf36_2 : wc.frozen? ⟨go36, (1 : Int).toNat * 5 + 2, none⟩ = false := hfr36 2
            have hf36_3 : wc.frozen? ⟨go36, (1 : Int).toNat * 5 + 3, none⟩ = false := hfr36 3
            have hf36_4 : wc.frozen? ⟨go36, (1 : Int).toNat * 5 + 4, none⟩ = false := hfr36 4
            clear hcl36 hcc36 hfr36 hM36
            (try rw [show ((1 : Int)).toNat = 1 from rfl] at hx36_0)
            (try simp only [Nat.reduceMul, Nat.zero_mul, Nat.zero_add, Nat.reduceAdd] at hx36_0)
            (try rw [show ((1 : Int)).toNat = 1 from rfl] at hf36_0)
            (try simp only [Nat.reduceMul, Nat.zero_mul, Nat.zero_add, Nat.reduceAdd] at hf36_0)
            (try rw [show ((1 : Int)).toNat = 1 from rfl] at hx36_1)
            (try simp only [Nat.reduceMul, Nat.zero_mul, Nat.zero_add, Nat.reduceAdd] at hx36_1)
            (try rw [show ((1 : Int)).toNat = 1 from rfl] at hf36_1)
            (try simp only [Nat.reduceMul, Nat.zero_mul, Nat.zero_add, Nat.reduceAdd] at hf36_1)
            (try rw [show ((1 : Int)).toNat = 1 from rfl] at hx36_2)
            (try simp only [Nat.reduceMul, Nat.zero_mul, Nat.zero_add, Nat.reduceAdd] at hx36_2)
            (try rw [show ((1 : Int)).toNat = 1 from rfl] at hf36_2)
            (try simp only [Nat.reduceMul, Nat.zero_mul, Nat.zero_add, Nat.reduceAdd] at hf36_2)
            (try rw [show ((1 : Int)).toNat = 1 from rfl] at hx36_3)
            (try simp only [Nat.reduceMul, Nat.zero_mul, Nat.zero_add, Nat.reduceAdd] at hx36_3)
            (try rw [show ((1 : Int)).toNat = 1 from rfl] at hf36_3)
            (try simp only [Nat.reduceMul, Nat.zero_mul, Nat.zero_add, Nat.reduceAdd] at hf36_3)
            (try rw [show ((1 : Int)).toNat = 1 from rfl] at hx36_4)
            (try simp only [Nat.reduceMul, Nat.zero_mul, Nat.zero_add, Nat.reduceAdd] at hx36_4)
            (try rw [show ((1 : Int)).toNat = 1 from rfl] at hf36_4)
            (try simp only [Nat.reduceMul, Nat.zero_mul, Nat.zero_add, Nat.reduceAdd] at hf36_4)
            replace p36 := eq_true p36
            replace q36 := eq_true q36
            have HX37 := Aside0.mk (show Kd.S k69 69 wc w.heap.size (fun k_ => ((fun _ => True)) k_ ∧ ¬ ((fun _ => False)) k_) (.slice (some ⟨go36, 0, none⟩) t164.length co36) t164 from (by (with_reducible repeat (first | apply Kd.S_alloc | apply Kd.S_drewN | apply Kd.S_drew)); exact Kd.S_mono HO_6.out (fun k_ hk => ⟨trivial, fun e_ => e_⟩)))
            obtain ⟨oki37, ce37, hcl37, hM37, hcc37, hfr37, hoki37, hH37⟩ := Kd.S_elem HX37.out z69 (1 : Int) (by omega) (by have h_ : (1 : Int) < ((t164.length : Int) : Int) := of_decide_eq_true (by first | (with_reducible assumption) | assumption); first | exact h_ | (have e_ := (Kd.S_reads' HO_6.out).1; omega) | simpa using h_)
            obtain ⟨ve37_3, rfl, ge37_3⟩ := k69_openM hM37
            have HP37 := Kd.S_seg hH37 (by omega) (by have h_ : (1 : Int) < ((t164.length : Int) : Int) := of_decide_eq_true (by first | (with_reducible assumption) | assumption); first | exact h_ | (have e_ := (Kd.S_reads' HO_6.out).1; omega) | simpa using h_) (seg := [.int .i64 (wrap64 (-(wrap64 (1 + (Go.bits .and .i64 a1 63)))))]) (j := 4) (show 5 ≤ 5 from by decide) (x' := (⟨(rd_T69 t164 1).f0, (rd_T69 t164 1).f1, (rd_T69 t164 1).f2, (rd_T69 t164 1).f3, wrap64 (-(wrap64 (1 + (Go.bits .and .i64 a1 63))))⟩ : S69)) (k69_mkM _ _ _ (⟨(rd_T69 t164 1).f0, (rd_T69 t164 1).f1, (rd_T69 t164 1).f2, (rd_T69 t164 1).f3, wrap64 (-(wrap64 (1 + (Go.bits .and .i64 a1 63))))⟩ : S69) (Kd.R_mono ge37_3 (fun _ h_ => Or.inl h_))) (fun _ hk => hk) (fun k_ hk_ => hk_.elim)
            have hx37_4 := hcc37 4 _ rfl
            (try simp only [show (k69).sz = 5 from rfl, Nat.mul_one, Nat.add_zero] at hx37_4)
            (try rw [show ((1 : Int)).toNat = 1 from rfl] at hx37_4)
            (try simp only [Nat.reduceMul, Nat.zero_mul, Nat.zero_add, Nat.reduceAdd] at hx37_4)
            have hf37_4 := hfr37 4
            (try simp only [show (k69).sz = 5 from rfl, Nat.mul_one, Nat.add_zero] at hf37_4)
            (try rw [show ((1 : Int)).toNat = 1 from rfl] at hf37_4)
            (try simp only [Nat.reduceMul, Nat.zero_mul, Nat.zero_add, Nat.reduceAdd] at hf37_4)
            clear hcl37 hcc37 hfr37 hM37 hoki37 hH37
            go_wp2_with (first | ((with_reducible refine gate_store (t := 3) (p := 58) rfl ?_); refine store_event (t := 3) (p := 58) (v := ?vo_w38) (w1 := (wc.setCell ⟨go36, 9, none⟩ (.int .i64 (wrap64 (-(wrap64 (1 + (Go.bits .and .i64 a1 63)))))))) ?hg ?ho ?hn ?hr ?_; (case ho => rfl); (case hg => rfl); (case hn => rfl); (case hr => first | (go_simp; done) | (go_simp; rfl)); intro w38 hw; have hg : wc.grownBy w38 (some go36) := (by rw [hw]; exact HP37.2); have hp_ : Kd.S k69 69 w38 w.heap.size (fun _ => True) (.slice (some ⟨go36, 0, none⟩) t164.length co36) y173 := (by rw [hw, Ny173.out]; exact HP37.1); clear HP37; have n0_ := Aside0.mk (hp_); have n1_ := Aside0.mk ((by rw [hw]; exact below_set (HB.out) GB36.out : Below w.heap.size w w38)); clear HO_6; clear HB; have HO_6 := n0_; have HB := n1_; clear n0_ n1_; clear hg hw hp_))
            go_meet
            case rel => exact ⟨_, (y173), H', ⟨by have := HJ5.out; first | omega | exact Nat.le_refl _⟩, ⟨by (with_reducible repeat (first | apply Kd.S_alloc | apply Kd.S_drewN | apply Kd.S_drew)); exact HO_6.out⟩, ⟨by repeat (first | (with_reducible first | exact HB.out | apply below_alloc | apply pw_below_drewN | apply below_drew1) | exact HB.out)⟩⟩
           ·rw [if_neg c35] at H
            exact absurd H (by simp)
          ·rw [if_neg c34] at H
           have c34b0 : ((Int.tmod (IntKind.u64.wrap (a0)) 12) == 4) = false := beq_eq_false_iff_ne.mpr c34
           have c34b1 : ((Int.tmod (IntKind.u64.wrap (a0)) 12) != 4) = true := bne_iff_ne.mpr c34
           by_cases c39 : (Int.tmod (IntKind.u64.wrap (a0)) 12) = 5
           ·rw [if_pos c39] at H
            have c39b0 : ((Int.tmod (IntKind.u64.wrap (a0)) 12) == 5) = true := beq_iff_eq.mpr c39
            have c39b1 : ((Int.tmod (IntKind.u64.wrap (a0)) 12) != 5) = false := bne_eq_false_iff_eq.mpr c39
            clear c39
            by_cases c40 : 1 < (t164.length : Int)
            ·rw [if_pos c40] at H
             have c40b0 : decide (1 < (t164.length : Int)) = true := decide_eq_true c40
             have c40b1 : decide (1 < t164.length) = true := decide_eq_true (by omega)
             clear c40
             obtain ⟨y174, hy174⟩ : ∃ y_ : List (S69), y_ = (t164.set (1 : Int).toNat (⟨0, (rd_T69 t164 1).f1, (rd_T69 t164 1).f2, (rd_T69 t164 1).f3, (rd_T69 t164 1).f4⟩ : S69)) := ⟨_, rfl⟩
             replace H : (stolelaw8_PageForms.j1 kj5 y174) = some r := by first | (rw [hy174]; with_reducible exact H) | (have H2_ := (Option.bind_some _ _).symm.trans H; rw [hy174]; with_reducible exact H2_) | (have H2_ := (Option.bind_some _ _).symm.trans H; with_reducible exact H2_) | with_reducible exact H | (rw [hy174]; exact H) | exact H
             have Ny174 := Aside0.mk hy174
             clear hy174
             have H' := Aside0.mk H
             clear H
             have p41 : 0 ≤ (1 : Int) := (by omega)
             have q41 : (1 : Int) < ((t164.length : Int) : Int) := of_decide_eq_true (by first | (with_reducible assumption) | assumption)
             have qi41 : (1 < t164.length) = True := eq_true (by omega)
             obtain ⟨go41, co41, eo41, gb41, gl41, cl41, HG41⟩ := Kd.S_form HO_6.out (by omega)
             (first | cases eo41 | (injection eo41 with ea_ en_ ec_; (first | subst ea_ | (injection ea_ with ea_; subst ea_)); subst ec_; clear en_))
             have GB41 := Aside0.mk gb41
             have GG41 := Aside0.mk HG41
             clear gb41 gl41 HG41
             obtain ⟨_, ce41, hcl41, hM41, hcc41, hfr41, _, _⟩ := Kd.S_elem HO_6.out z69 (1 : Int) p41 q41
             obtain ⟨ve41_3, rfl, ge41_3⟩ := k69_openM hM41
             have hx41_0 : wc.cell? ⟨go41, (1 : Int).toNat * 5, none⟩ = some (.int .i64 ((rd_T69 t164 1).f0)) := hcc41 0 _ rfl
             have hx41_1 : wc.cell? ⟨go41, (1 : Int).toNat * 5 + 1, none⟩ = some (.string ((rd_T69 t164 1).f1)) := hcc41 1 _ rfl
             have hx41_2 : wc.cell? ⟨go41, (1 : Int).toNat * 5 + 2, none⟩ = some (.string ((rd_T69 t164 1).f2)) := hcc41 2 _ rfl
             have hx41_3 : wc.cell? ⟨go41, (1 : Int).toNat * 5 + 3, none⟩ = some (ve41_3) := hcc41 3 _ rfl
             have hx41_4 : wc.cell? ⟨go41, (1 : Int).toNat * 5 + 4, none⟩ = some (.int .i64 ((rd_T69 t164 1).f4)) := hcc41 4 _ rfl
             have hf41_0 : wc.frozen? ⟨go41, (1 : Int).toNat * 5, none⟩ = false := hfr41 0
             have hf41_1 : wc.frozen? ⟨go41, (1 : Int).toNat * 5 + 1, none⟩ = false := hfr41 1
             have hf41_2 : wc.frozen? ⟨go41, (1 : Int).toNat * 5 + 2, none⟩ = false := hfr41 2
             have hf41_3 : wc.frozen? ⟨go41, (1 : Int).toNat * 5 + 3, none⟩ = false := hfr41 3
             have hf41_4 : wc.frozen? ⟨go41, (1 : Int).toNat * 5 + 4, none⟩ = false := hfr41 4
             clear hcl41 hcc41 hfr41 hM41
             (try rw [show ((1 : Int)).toNat = 1 from rfl] at hx41_0)
             (try simp only [Nat.reduceMul, Nat.zero_mul, Nat.zero_add, Nat.reduceAdd] at hx41_0)
             (try rw [show ((1 : Int)).toNat = 1 from rfl] at hf41_0)
             (try simp only [Nat.reduceMul, Nat.zero_mul, Nat.zero_add, Nat.reduceAdd] at hf41_0)
             (try rw [show ((1 : Int)).toNat = 1 from rfl] at hx41_1)
             (try simp only [Nat.reduceMul, Nat.zero_mul, Nat.zero_add, Nat.reduceAdd] at hx41_1)
             (try rw [show ((1 : Int)).toNat = 1 from rfl] at hf41_1)
             (try simp only [Nat.reduceMul, Nat.zero_mul, Nat.zero_add, Nat.reduceAdd] at hf41_1)
             (try rw [show ((1 : Int)).toNat = 1 from rfl] at hx41_2)
             (try simp only [Nat.reduceMul, Nat.zero_mul, Nat.zero_add, Nat.reduceAdd] at hx41_2)
             (try rw [show ((1 : Int)).toNat = 1 from rfl] at hf41_2)
             (try simp only [Nat.reduceMul, Nat.zero_mul, Nat.zero_add, Nat.reduceAdd] at hf41_2)
             (try rw [show ((1 : Int)).toNat = 1 from rfl] at hx41_3)
             (try simp only [Nat.reduceMul, Nat.zero_mul, Nat.zero_add, Nat.reduceAdd] at hx41_3)
             (try rw [show ((1 : Int)).toNat = 1 from rfl] at hf41_3)
             (try simp only [Nat.reduceMul, Nat.zero_mul, Nat.zero_add, Nat.reduceAdd] at hf41_3)
             (try rw [show ((1 : Int)).toNat = 1 from rfl] at hx41_4)
             (try simp only [Nat.reduceMul, Nat.zero_mul, Nat.zero_add, Nat.reduceAdd] at hx41_4)
             (try rw [show ((1 : Int)).toNat = 1 from rfl] at hf41_4)
             (try simp only [Nat.reduceMul, Nat.zero_mul, Nat.zero_add, Nat.reduceAdd] at hf41_4)
             replace p41 := eq_true p41
             replace q41 := eq_true q41
             have HX42 := Aside0.mk (show Kd.S k69 69 wc w.heap.size (fun k_ => ((fun _ => True)) k_ ∧ ¬ ((fun _ => False)) k_) (.slice (some ⟨go41, 0, none⟩) t164.length co41) t164 from (by (with_reducible repeat (first | apply Kd.S_alloc | apply Kd.S_drewN | apply Kd.S_drew)); exact Kd.S_mono HO_6.out (fun k_ hk => ⟨trivial, fun e_ => e_⟩)))
             obtain ⟨oki42, ce42, hcl42, hM42, hcc42, hfr42, hoki42, hH42⟩ := Kd.S_elem HX42.out z69 (1 : Int) (by omega) (by have h_ : (1 : Int) < ((t164.length : Int) : Int) := of_decide_eq_true (by first | (with_reducible assumption) | assumption); first | exact h_ | (have e_ := (Kd.S_reads' HO_6.out).1; omega) | simpa using h_)
             obtain ⟨ve42_3, rfl, ge42_3⟩ := k69_openM hM42
             have HP42 := Kd.S_seg hH42 (by omega) (by have h_ : (1 : Int) < ((t164.length : Int) : Int) := of_decide_eq_true (by first | (with_reducible assumption) | assumption); first | exact h_ | (have e_ := (Kd.S_reads' HO_6.out).1; omega) | simpa using h_) (seg := [.int .i64 0]) (j := 0) (show 1 ≤ 5 from by decide) (x' := (⟨0, (rd_T69 t164 1).f1, (rd_T69 t164 1).f2, (rd_T69 t164 1).f3, (rd_T69 t164 1).f4⟩ : S69)) (k69_mkM _ _ _ (⟨0, (rd_T69 t164 1).f1, (rd_T69 t164 1).f2, (rd_T69 t164 1).f3, (rd_T69 t164 1).f4⟩ : S69) (Kd.R_mono ge42_3 (fun _ h_ => Or.inl h_))) (fun _ hk => hk) (fun k_ hk_ => hk_.elim)
             have hx42_0 := hcc42 0 _ rfl
             (try simp only [show (k69).sz = 5 from rfl, Nat.mul_one, Nat.add_zero] at hx42_0)
             (try rw [show ((1 : Int)).toNat = 1 from rfl] at hx42_0)
             (try simp only [Nat.reduceMul, Nat.zero_mul, Nat.zero_add, Nat.reduceAdd] at hx42_0)
             have hf42_0 := hfr42 0
             (try simp only [show (k69).sz = 5 from rfl, Nat.mul_one, Nat.add_zero] at hf42_0)
             (try rw [show ((1 : Int)).toNat = 1 from rfl] at hf42_0)
             (try simp only [Nat.reduceMul, Nat.zero_mul, Nat.zero_add, Nat.reduceAdd] at hf42_0)
             clear hcl42 hcc42 hfr42 hM42 hoki42 hH42
             go_wp2_with (first | ((with_reducible refine gate_store (t := 3) (p := 63) rfl ?_); refine store_event (t := 3) (p := 63) (v := ?vo_w43) (w1 := (wc.setCell ⟨go41, 5, none⟩ (.int .i64 0))) ?hg ?ho ?hn ?hr ?_; (case ho => rfl); (case hg => rfl); (case hn => rfl); (case hr => first | (go_simp; done) | (go_simp; rfl)); intro w43 hw; have hg : wc.grownBy w43 (some go41) := (by rw [hw]; exact HP42.2); have hp_ : Kd.S k69 69 w43 w.heap.size (fun _ => True) (.slice (some ⟨go41, 0, none⟩) t164.length co41) y174 := (by rw [hw, Ny174.out]; exact HP42.1); clear HP42; have n0_ := Aside0.mk (hp_); have n1_ := Aside0.mk ((by rw [hw]; exact below_set (HB.out) GB41.out : Below w.heap.size w w43)); clear HO_6; clear HB; have HO_6 := n0_; have HB := n1_; clear n0_ n1_; clear hg hw hp_))
             go_meet
             case rel => exact ⟨_, (y174), H', ⟨by have := HJ5.out; first | omega | exact Nat.le_refl _⟩, ⟨by (with_reducible repeat (first | apply Kd.S_alloc | apply Kd.S_drewN | apply Kd.S_drew)); exact HO_6.out⟩, ⟨by repeat (first | (with_reducible first | exact HB.out | apply below_alloc | apply pw_below_drewN | apply below_drew1) | exact HB.out)⟩⟩
            ·rw [if_neg c40] at H
             exact absurd H (by simp)
           ·rw [if_neg c39] at H
            have c39b0 : ((Int.tmod (IntKind.u64.wrap (a0)) 12) == 5) = false := beq_eq_false_iff_ne.mpr c39
            have c39b1 : ((Int.tmod (IntKind.u64.wrap (a0)) 12) != 5) = true := bne_iff_ne.mpr c39
            by_cases c44 : (Int.tmod (IntKind.u64.wrap (a0)) 12) = 6
            ·rw [if_pos c44] at H
             have c44b0 : ((Int.tmod (IntKind.u64.wrap (a0)) 12) == 6) = true := beq_iff_eq.mpr c44
             have c44b1 : ((Int.tmod (IntKind.u64.wrap (a0)) 12) != 6) = false := bne_eq_false_iff_eq.mpr c44
             clear c44
             by_cases c45 : 1 < (t164.length : Int)
             ·rw [if_pos c45] at H
              have c45b0 : decide (1 < (t164.length : Int)) = true := decide_eq_true c45
              have c45b1 : decide (1 < t164.length) = true := decide_eq_true (by omega)
              clear c45
              obtain ⟨y175, hy175⟩ : ∃ y_ : List (S69), y_ = (t164.set (1 : Int).toNat (⟨(rd_T69 t164 1).f0, (rd_T69 t164 1).f1, (⟨#[120]⟩ : ByteArray), (rd_T69 t164 1).f3, (rd_T69 t164 1).f4⟩ : S69)) := ⟨_, rfl⟩
              replace H : (stolelaw8_PageForms.j1 kj5 y175) = some r := by first | (rw [hy175]; with_reducible exact H) | (have H2_ := (Option.bind_some _ _).symm.trans H; rw [hy175]; with_reducible exact H2_) | (have H2_ := (Option.bind_some _ _).symm.trans H; with_reducible exact H2_) | with_reducible exact H | (rw [hy175]; exact H) | exact H
              have Ny175 := Aside0.mk hy175
              clear hy175
              have H' := Aside0.mk H
              clear H
              have p46 : 0 ≤ (1 : Int) := (by omega)
              have q46 : (1 : Int) < ((t164.length : Int) : Int) := of_decide_eq_true (by first | (with_reducible assumption) | assumption)
              have qi46 : (1 < t164.length) = True := eq_true (by omega)
              obtain ⟨go46, co46, eo46, gb46, gl46, cl46, HG46⟩ := Kd.S_form HO_6.out (by omega)
              (first | cases eo46 | (injection eo46 with ea_ en_ ec_; (first | subst ea_ | (injection ea_ with ea_; subst ea_)); subst ec_; clear en_))
              have GB46 := Aside0.mk gb46
              have GG46 := Aside0.mk HG46
              clear gb46 gl46 HG46
              obtain ⟨_, ce46, hcl46, hM46, hcc46, hfr46, _, _⟩ := Kd.S_elem HO_6.out z69 (1 : Int) p46 q46
              obtain ⟨ve46_3, rfl, ge46_3⟩ := k69_openM hM46
              have hx46_0 : wc.cell? ⟨go46, (1 : Int).toNat * 5, none⟩ = some (.int .i64 ((rd_T69 t164 1).f0)) := hcc46 0 _ rfl
              have hx46_1 : wc.cell? ⟨go46, (1 : Int).toNat * 5 + 1, none⟩ = some (.string ((rd_T69 t164 1).f1)) := hcc46 1 _ rfl
              have hx46_2 : wc.cell? ⟨go46, (1 : Int).toNat * 5 + 2, none⟩ = some (.string ((rd_T69 t164 1).f2)) := hcc46 2 _ rfl
              have hx46_3 : wc.cell? ⟨go46, (1 : Int).toNat * 5 + 3, none⟩ = some (ve46_3) := hcc46 3 _ rfl
              have hx46_4 : wc.cell? ⟨go46, (1 : Int).toNat * 5 + 4, none⟩ = some (.int .i64 ((rd_T69 t164 1).f4)) := hcc46 4 _ rfl
              have hf46_0 : wc.frozen? ⟨go46, (1 : Int).toNat * 5, none⟩ = false := hfr46 0
              have hf46_1 : wc.frozen? ⟨go46, (1 : Int).toNat * 5 + 1, none⟩ = false := hfr46 1
              have hf46_2 : wc.frozen? ⟨go46, (1 : Int).toNat * 5 + 2, none⟩ = false := hfr46 2
              have hf46_3 : wc.frozen? ⟨go46, (1 : Int).toNat * 5 + 3, none⟩ = false := hfr46 3
              have hf46_4 : wc.frozen? ⟨go46, (1 : Int).toNat * 5 + 4, none⟩ = false := hfr46 4
              clear hcl46 hcc46 hfr46 hM46
              (try rw [show ((1 : Int)).toNat = 1 from rfl] at hx46_0)
              (try simp only [Nat.reduceMul, Nat.zero_mul, Nat.zero_add, Nat.reduceAdd] at hx46_0)
              (try rw [show ((1 : Int)).toNat = 1 from rfl] at hf46_0)
              (try simp only [Nat.reduceMul, Nat.zero_mul, Nat.zero_add, Nat.reduceAdd] at hf46_0)
              (try rw [show ((1 : Int)).toNat = 1 from rfl] at hx46_1)
              (try simp only [Nat.reduceMul, Nat.zero_mul, Nat.zero_add, Nat.reduceAdd] at hx46_1)
              (try rw [show ((1 : Int)).toNat = 1 from rfl] at hf46_1)
              (try simp only [Nat.reduceMul, Nat.zero_mul, Nat.zero_add, Nat.reduceAdd] at hf46_1)
              (try rw [show ((1 : Int)).toNat = 1 from rfl] at hx46_2)
              (try simp only [Nat.reduceMul, Nat.zero_mul, Nat.zero_add, Nat.reduceAdd] at hx46_2)
              (try rw [show ((1 : Int)).toNat = 1 from rfl] at hf46_2)
              (try simp only [Nat.reduceMul, Nat.zero_mul, Nat.zero_add, Nat.reduceAdd] at hf46_2)
              (try rw [show ((1 : Int)).toNat = 1 from rfl] at hx46_3)
              (try simp only [Nat.reduceMul, Nat.zero_mul, Nat.zero_add, Nat.reduceAdd] at hx46_3)
              (try rw [show ((1 : Int)).toNat = 1 from rfl] at hf46_3)
              (try simp only [Nat.reduceMul, Nat.zero_mul, Nat.zero_add, Nat.reduceAdd] at hf46_3)
              (try rw [show ((1 : Int)).toNat = 1 from rfl] at hx46_4)
              (try simp only [Nat.reduceMul, Nat.zero_mul, Nat.zero_add, Nat.reduceAdd] at hx46_4)
              (try rw [show ((1 : Int)).toNat = 1 from rfl] at hf46_4)
              (try simp only [Nat.reduceMul, Nat.zero_mul, Nat.zero_add, Nat.reduceAdd] at hf46_4)
              replace p46 := eq_true p46
              replace q46 := eq_true q46
              have HX47 := Aside0.mk (show Kd.S k69 69 wc w.heap.size (fun k_ => ((fun _ => True)) k_ ∧ ¬ ((fun _ => False)) k_) (.slice (some ⟨go46, 0, none⟩) t164.length co46) t164 from (by (with_reducible repeat (first | apply Kd.S_alloc | apply Kd.S_drewN | apply Kd.S_drew)); exact Kd.S_mono HO_6.out (fun k_ hk => ⟨trivial, fun e_ => e_⟩)))
              obtain ⟨oki47, ce47, hcl47, hM47, hcc47, hfr47, hoki47, hH47⟩ := Kd.S_elem HX47.out z69 (1 : Int) (by omega) (by have h_ : (1 : Int) < ((t164.length : Int) : Int) := of_decide_eq_true (by first | (with_reducible assumption) | assumption); first | exact h_ | (have e_ := (Kd.S_reads' HO_6.out).1; omega) | simpa using h_)
              obtain ⟨ve47_3, rfl, ge47_3⟩ := k69_openM hM47
              have HP47 := Kd.S_seg hH47 (by omega) (by have h_ : (1 : Int) < ((t164.length : Int) : Int) := of_decide_eq_true (by first | (with_reducible assumption) | assumption); first | exact h_ | (have e_ := (Kd.S_reads' HO_6.out).1; omega) | simpa using h_) (seg := [.string (⟨#[120]⟩ : ByteArray)]) (j := 2) (show 3 ≤ 5 from by decide) (x' := (⟨(rd_T69 t164 1).f0, (rd_T69 t164 1).f1, (⟨#[120]⟩ : ByteArray), (rd_T69 t164 1).f3, (rd_T69 t164 1).f4⟩ : S69)) (k69_mkM _ _ _ (⟨(rd_T69 t164 1).f0, (rd_T69 t164 1).f1, (⟨#[120]⟩ : ByteArray), (rd_T69 t164 1).f3, (rd_T69 t164 1).f4⟩ : S69) (Kd.R_mono ge47_3 (fun _ h_ => Or.inl h_))) (fun _ hk => hk) (fun k_ hk_ => hk_.elim)
              have hx47_2 := hcc47 2 _ rfl
              (try simp only [show (k69).sz = 5 from rfl, Nat.mul_one, Nat.add_zero] at hx47_2)
              (try rw [show ((1 : Int)).toNat = 1 from rfl] at hx47_2)
              (try simp only [Nat.reduceMul, Nat.zero_mul, Nat.zero_add, Nat.reduceAdd] at hx47_2)
              have hf47_2 := hfr47 2
              (try simp only [show (k69).sz = 5 from rfl, Nat.mul_one, Nat.add_zero] at hf47_2)
              (try rw [show ((1 : Int)).toNat = 1 from rfl] at hf47_2)
              (try simp only [Nat.reduceMul, Nat.zero_mul, Nat.zero_add, Nat.reduceAdd] at hf47_2)
              clear hcl47 hcc47 hfr47 hM47 hoki47 hH47
              go_wp2_with (first | ((with_reducible refine gate_store (t := 9) (p := 68) rfl ?_); refine store_event (t := 9) (p := 68) (v := ?vo_w48) (w1 := (wc.setCell ⟨go46, 7, none⟩ (.string (⟨#[120]⟩ : ByteArray)))) ?hg ?ho ?hn ?hr ?_; (case ho => rfl); (case hg => rfl); (case hn => rfl); (case hr => first | (go_simp; done) | (go_simp; rfl)); intro w48 hw; have hg : wc.grownBy w48 (some go46) := (by rw [hw]; exact HP47.2); have hp_ : Kd.S k69 69 w48 w.heap.size (fun _ => True) (.slice (some ⟨go46, 0, none⟩) t164.length co46) y175 := (by rw [hw, Ny175.out]; exact HP47.1); clear HP47; have n0_ := Aside0.mk (hp_); have n1_ := Aside0.mk ((by rw [hw]; exact below_set (HB.out) GB46.out : Below w.heap.size w w48)); clear HO_6; clear HB; have HO_6 := n0_; have HB := n1_; clear n0_ n1_; clear hg hw hp_))
              go_meet
              case rel => exact ⟨_, (y175), H', ⟨by have := HJ5.out; first | omega | exact Nat.le_refl _⟩, ⟨by (with_reducible repeat (first | apply Kd.S_alloc | apply Kd.S_drewN | apply Kd.S_drew)); exact HO_6.out⟩, ⟨by repeat (first | (with_reducible first | exact HB.out | apply below_alloc | apply pw_below_drewN | apply below_drew1) | exact HB.out)⟩⟩
             ·rw [if_neg c45] at H
              exact absurd H (by simp)
            ·rw [if_neg c44] at H
             have c44b0 : ((Int.tmod (IntKind.u64.wrap (a0)) 12) == 6) = false := beq_eq_false_iff_ne.mpr c44
             have c44b1 : ((Int.tmod (IntKind.u64.wrap (a0)) 12) != 6) = true := bne_iff_ne.mpr c44
             by_cases c49 : (Int.tmod (IntKind.u64.wrap (a0)) 12) = 7
             ·rw [if_pos c49] at H
              have c49b0 : ((Int.tmod (IntKind.u64.wrap (a0)) 12) == 7) = true := beq_iff_eq.mpr c49
              have c49b1 : ((Int.tmod (IntKind.u64.wrap (a0)) 12) != 7) = false := bne_eq_false_iff_eq.mpr c49
              clear c49
              by_cases c50 : 2 < (t164.length : Int)
              ·rw [if_pos c50] at H
               have c50b0 : decide (2 < (t164.length : Int)) = true := decide_eq_true c50
               have c50b1 : decide (2 < t164.length) = true := decide_eq_true (by omega)
               clear c50
               obtain ⟨y176, hy176⟩ : ∃ y_ : List (S69), y_ = (t164.set (2 : Int).toNat (⟨(rd_T69 t164 2).f0, (⟨#[120]⟩ : ByteArray), (rd_T69 t164 2).f2, (rd_T69 t164 2).f3, (rd_T69 t164 2).f4⟩ : S69)) := ⟨_, rfl⟩
               replace H : (stolelaw8_PageForms.j1 kj5 y176) = some r := by first | (rw [hy176]; with_reducible exact H) | (have H2_ := (Option.bind_some _ _).symm.trans H; rw [hy176]; with_reducible exact H2_) | (have H2_ := (Option.bind_some _ _).symm.trans H; with_reducible exact H2_) | with_reducible exact H | (rw [hy176]; exact H) | exact H
               have Ny176 := Aside0.mk hy176
               clear hy176
               have H' := Aside0.mk H
               clear H
               have p51 : 0 ≤ (2 : Int) := (by omega)
               have q51 : (2 : Int) < ((t164.length : Int) : Int) := of_decide_eq_true (by first | (with_reducible assumption) | assumption)
               have qi51 : (2 < t164.length) = True := eq_true (by omega)
               obtain ⟨go51, co51, eo51, gb51, gl51, cl51, HG51⟩ := Kd.S_form HO_6.out (by omega)
               (first | cases eo51 | (injection eo51 with ea_ en_ ec_; (first | subst ea_ | (injection ea_ with ea_; subst ea_)); subst ec_; clear en_))
               have GB51 := Aside0.mk gb51
               have GG51 := Aside0.mk HG51
               clear gb51 gl51 HG51
               obtain ⟨_, ce51, hcl51, hM51, hcc51, hfr51, _, _⟩ := Kd.S_elem HO_6.out z69 (2 : Int) p51 q51
               obtain ⟨ve51_3, rfl, ge51_3⟩ := k69_openM hM51
               have hx51_0 : wc.cell? ⟨go51, (2 : Int).toNat * 5, none⟩ = some (.int .i64 ((rd_T69 t164 2).f0)) := hcc51 0 _ rfl
               have hx51_1 : wc.cell? ⟨go51, (2 : Int).toNat * 5 + 1, none⟩ = some (.string ((rd_T69 t164 2).f1)) := hcc51 1 _ rfl
               have hx51_2 : wc.cell? ⟨go51, (2 : Int).toNat * 5 + 2, none⟩ = some (.string ((rd_T69 t164 2).f2)) := hcc51 2 _ rfl
               have hx51_3 : wc.cell? ⟨go51, (2 : Int).toNat * 5 + 3, none⟩ = some (ve51_3) := hcc51 3 _ rfl
               have hx51_4 : wc.cell? ⟨go51, (2 : Int).toNat * 5 + 4, none⟩ = some (.int .i64 ((rd_T69 t164 2).f4)) := hcc51 4 _ rfl
               have hf51_0 : wc.frozen? ⟨go51, (2 : Int).toNat * 5, none⟩ = false := hfr51 0
               have hf51_1 : wc.frozen? ⟨go51, (2 : Int).toNat * 5 + 1, none⟩ = false := hfr51 1
               have hf51_2 : wc.frozen? ⟨go51, (2 : Int).toNat * 5 + 2, none⟩ = false := hfr51 2
               have hf51_3 : wc.frozen? ⟨go51, (2 : Int).toNat * 5 + 3, none⟩ = false := hfr51 3
               have hf51_4 : wc.frozen? ⟨go51, (2 : Int).toNat * 5 + 4, none⟩ = false := hfr51 4
               clear hcl51 hcc51 hfr51 hM51
               (try rw [show ((2 : Int)).toNat = 2 from rfl] at hx51_0)
               (try simp only [Nat.reduceMul, Nat.zero_mul, Nat.zero_add, Nat.reduceAdd] at hx51_0)
               (try rw [show ((2 : Int)).toNat = 2 from rfl] at hf51_0)
               (try simp only [Nat.reduceMul, Nat.zero_mul, Nat.zero_add, Nat.reduceAdd] at hf51_0)
               (try rw [show ((2 : Int)).toNat = 2 from rfl] at hx51_1)
               (try simp only [Nat.reduceMul, Nat.zero_mul, Nat.zero_add, Nat.reduceAdd] at hx51_1)
               (try rw [show ((2 : Int)).toNat = 2 from rfl] at hf51_1)
               (try simp only [Nat.reduceMul, Nat.zero_mul, Nat.zero_add, Nat.reduceAdd] at hf51_1)
               (try rw [show ((2 : Int)).toNat = 2 from rfl] at hx51_2)
               (try simp only [Nat.reduceMul, Nat.zero_mul, Nat.zero_add, Nat.reduceAdd] at hx51_2)
               (try rw [show ((2 : Int)).toNat = 2 from rfl] at hf51_2)
               (try simp only [Nat.reduceMul, Nat.zero_mul, Nat.zero_add, Nat.reduceAdd] at hf51_2)
               (try rw [show ((2 : Int)).toNat = 2 from rfl] at hx51_3)
               (try simp only [Nat.reduceMul, Nat.zero_mul, Nat.zero_add, Nat.reduceAdd] at hx51_3)
               (try rw [show ((2 : Int)).toNat = 2 from rfl] at hf51_3)
               (try simp only [Nat.reduceMul, Nat.zero_mul, Nat.zero_add, Nat.reduceAdd] at hf51_3)
               (try rw [show ((2 : Int)).toNat = 2 from rfl] at hx51_4)
               (try simp only [Nat.reduceMul, Nat.zero_mul, Nat.zero_add, Nat.reduceAdd] at hx51_4)
               (try rw [show ((2 : Int)).toNat = 2 from rfl] at hf51_4)
               (try simp only [Nat.reduceMul, Nat.zero_mul, Nat.zero_add, Nat.reduceAdd] at hf51_4)
               replace p51 := eq_true p51
               replace q51 := eq_true q51
               have HX52 := Aside0.mk (show Kd.S k69 69 wc w.heap.size (fun k_ => ((fun _ => True)) k_ ∧ ¬ ((fun _ => False)) k_) (.slice (some ⟨go51, 0, none⟩) t164.length co51) t164 from (by (with_reducible repeat (first | apply Kd.S_alloc | apply Kd.S_drewN | apply Kd.S_drew)); exact Kd.S_mono HO_6.out (fun k_ hk => ⟨trivial, fun e_ => e_⟩)))
               obtain ⟨oki52, ce52, hcl52, hM52, hcc52, hfr52, hoki52, hH52⟩ := Kd.S_elem HX52.out z69 (2 : Int) (by omega) (by have h_ : (2 : Int) < ((t164.length : Int) : Int) := of_decide_eq_true (by first | (with_reducible assumption) | assumption); first | exact h_ | (have e_ := (Kd.S_reads' HO_6.out).1; omega) | simpa using h_)
               obtain ⟨ve52_3, rfl, ge52_3⟩ := k69_openM hM52
               have HP52 := Kd.S_seg hH52 (by omega) (by have h_ : (2 : Int) < ((t164.length : Int) : Int) := of_decide_eq_true (by first | (with_reducible assumption) | assumption); first | exact h_ | (have e_ := (Kd.S_reads' HO_6.out).1; omega) | simpa using h_) (seg := [.string (⟨#[120]⟩ : ByteArray)]) (j := 1) (show 2 ≤ 5 from by decide) (x' := (⟨(rd_T69 t164 2).f0, (⟨#[120]⟩ : ByteArray), (rd_T69 t164 2).f2, (rd_T69 t164 2).f3, (rd_T69 t164 2).f4⟩ : S69)) (k69_mkM _ _ _ (⟨(rd_T69 t164 2).f0, (⟨#[120]⟩ : ByteArray), (rd_T69 t164 2).f2, (rd_T69 t164 2).f3, (rd_T69 t164 2).f4⟩ : S69) (Kd.R_mono ge52_3 (fun _ h_ => Or.inl h_))) (fun _ hk => hk) (fun k_ hk_ => hk_.elim)
               have hx52_1 := hcc52 1 _ rfl
               (try simp only [show (k69).sz = 5 from rfl, Nat.mul_one, Nat.add_zero] at hx52_1)
               (try rw [show ((2 : Int)).toNat = 2 from rfl] at hx52_1)
               (try simp only [Nat.reduceMul, Nat.zero_mul, Nat.zero_add, Nat.reduceAdd] at hx52_1)
               have hf52_1 := hfr52 1
               (try simp only [show (k69).sz = 5 from rfl, Nat.mul_one, Nat.add_zero] at hf52_1)
               (try rw [show ((2 : Int)).toNat = 2 from rfl] at hf52_1)
               (try simp only [Nat.reduceMul, Nat.zero_mul, Nat.zero_add, Nat.reduceAdd] at hf52_1)
               clear hcl52 hcc52 hfr52 hM52 hoki52 hH52
               go_wp2_with (first | ((with_reducible refine gate_store (t := 9) (p := 73) rfl ?_); refine store_event (t := 9) (p := 73) (v := ?vo_w53) (w1 := (wc.setCell ⟨go51, 11, none⟩ (.string (⟨#[120]⟩ : ByteArray)))) ?hg ?ho ?hn ?hr ?_; (case ho => rfl); (case hg => rfl); (case hn => rfl); (case hr => first | (go_simp; done) | (go_simp; rfl)); intro w53 hw; have hg : wc.grownBy w53 (some go51) := (by rw [hw]; exact HP52.2); have hp_ : Kd.S k69 69 w53 w.heap.size (fun _ => True) (.slice (some ⟨go51, 0, none⟩) t164.length co51) y176 := (by rw [hw, Ny176.out]; exact HP52.1); clear HP52; have n0_ := Aside0.mk (hp_); have n1_ := Aside0.mk ((by rw [hw]; exact below_set (HB.out) GB51.out : Below w.heap.size w w53)); clear HO_6; clear HB; have HO_6 := n0_; have HB := n1_; clear n0_ n1_; clear hg hw hp_))
               go_meet
               case rel => exact ⟨_, (y176), H', ⟨by have := HJ5.out; first | omega | exact Nat.le_refl _⟩, ⟨by (with_reducible repeat (first | apply Kd.S_alloc | apply Kd.S_drewN | apply Kd.S_drew)); exact HO_6.out⟩, ⟨by repeat (first | (with_reducible first | exact HB.out | apply below_alloc | apply pw_below_drewN | apply below_drew1) | exact HB.out)⟩⟩
              ·rw [if_neg c50] at H
               exact absurd H (by simp)
             ·rw [if_neg c49] at H
              have c49b0 : ((Int.tmod (IntKind.u64.wrap (a0)) 12) == 7) = false := beq_eq_false_iff_ne.mpr c49
              have c49b1 : ((Int.tmod (IntKind.u64.wrap (a0)) 12) != 7) = true := bne_iff_ne.mpr c49
              by_cases c54 : (Int.tmod (IntKind.u64.wrap (a0)) 12) = 8
              ·rw [if_pos c54] at H
               have c54b0 : ((Int.tmod (IntKind.u64.wrap (a0)) 12) == 8) = true := beq_iff_eq.mpr c54
               have c54b1 : ((Int.tmod (IntKind.u64.wrap (a0)) 12) != 8) = false := bne_eq_false_iff_eq.mpr c54
               clear c54
               by_cases c55 : 3 < (t164.length : Int)
               ·rw [if_pos c55] at H
                have c55b0 : decide (3 < (t164.length : Int)) = true := decide_eq_true c55
                have c55b1 : decide (3 < t164.length) = true := decide_eq_true (by omega)
                clear c55
                obtain ⟨y177, hy177⟩ : ∃ y_ : List (S69), y_ = (t164.set (3 : Int).toNat (⟨(rd_T69 t164 3).f0, (rd_T69 t164 3).f1, (rd_T69 t164 3).f2, (rd_T69 t164 3).f3, 2⟩ : S69)) := ⟨_, rfl⟩
                replace H : (stolelaw8_PageForms.j1 kj5 y177) = some r := by first | (rw [hy177]; with_reducible exact H) | (have H2_ := (Option.bind_some _ _).symm.trans H; rw [hy177]; with_reducible exact H2_) | (have H2_ := (Option.bind_some _ _).symm.trans H; with_reducible exact H2_) | with_reducible exact H | (rw [hy177]; exact H) | exact H
                have Ny177 := Aside0.mk hy177
                clear hy177
                have H' := Aside0.mk H
                clear H
                have p56 : 0 ≤ (3 : Int) := (by omega)
                have q56 : (3 : Int) < ((t164.length : Int) : Int) := of_decide_eq_true (by first | (with_reducible assumption) | assumption)
                have qi56 : (3 < t164.length) = True := eq_true (by omega)
                obtain ⟨go56, co56, eo56, gb56, gl56, cl56, HG56⟩ := Kd.S_form HO_6.out (by omega)
                (first | cases eo56 | (injection eo56 with ea_ en_ ec_; (first | subst ea_ | (injection ea_ with ea_; subst ea_)); subst ec_; clear en_))
                have GB56 := Aside0.mk gb56
                have GG56 := Aside0.mk HG56
                clear gb56 gl56 HG56
                obtain ⟨_, ce56, hcl56, hM56, hcc56, hfr56, _, _⟩ := Kd.S_elem HO_6.out z69 (3 : Int) p56 q56
                obtain ⟨ve56_3, rfl, ge56_3⟩ := k69_openM hM56
                have hx56_0 : wc.cell? ⟨go56, (3 : Int).toNat * 5, none⟩ = some (.int .i64 ((rd_T69 t164 3).f0)) := hcc56 0 _ rfl
                have hx56_1 : wc.cell? ⟨go56, (3 : Int).toNat * 5 + 1, none⟩ = some (.string ((rd_T69 t164 3).f1)) := hcc56 1 _ rfl
                have hx56_2 : wc.cell? ⟨go56, (3 : Int).toNat * 5 + 2, none⟩ = some (.string ((rd_T69 t164 3).f2)) := hcc56 2 _ rfl
                have hx56_3 : wc.cell? ⟨go56, (3 : Int).toNat * 5 + 3, none⟩ = some (ve56_3) := hcc56 3 _ rfl
                have hx56_4 : wc.cell? ⟨go56, (3 : Int).toNat * 5 + 4, none⟩ = some (.int .i64 ((rd_T69 t164 3).f4)) := hcc56 4 _ rfl
                have hf56_0 : wc.frozen? ⟨go56, (3 : Int).toNat * 5, none⟩ = false := hfr56 0
                have hf56_1 : wc.frozen? ⟨go56, (3 : Int).toNat * 5 + 1, none⟩ = false := hfr56 1
                have hf56_2 : wc.frozen? ⟨go56, (3 : Int).toNat * 5 + 2, none⟩ = false := hfr56 2
                have hf56_3 : wc.frozen? ⟨go56, (3 : Int).toNat * 5 + 3, none⟩ = false := hfr56 3
                have hf56_4 : wc.frozen? ⟨go56, (3 : Int).toNat * 5 + 4, none⟩ = false := hfr56 4
                clear hcl56 hcc56 hfr56 hM56
                (try rw [show ((3 : Int)).toNat = 3 from rfl] at hx56_0)
                (try simp only [Nat.reduceMul, Nat.zero_mul, Nat.zero_add, Nat.reduceAdd] at hx56_0)
                (try rw [show ((3 : Int)).toNat = 3 from rfl] at hf56_0)
                (try simp only [Nat.reduceMul, Nat.zero_mul, Nat.zero_add, Nat.reduceAdd] at hf56_0)
                (try rw [show ((3 : Int)).toNat = 3 from rfl] at hx56_1)
                (try simp only [Nat.reduceMul, Nat.zero_mul, Nat.zero_add, Nat.reduceAdd] at hx56_1)
                (try rw [show ((3 : Int)).toNat = 3 from rfl] at hf56_1)
                (try simp only [Nat.reduceMul, Nat.zero_mul, Nat.zero_add, Nat.reduceAdd] at hf56_1)
                (try rw [show ((3 : Int)).toNat = 3 from rfl] at hx56_2)
                (try simp only [Nat.reduceMul, Nat.zero_mul, Nat.zero_add, Nat.reduceAdd] at hx56_2)
                (try rw [show ((3 : Int)).toNat = 3 from rfl] at hf56_2)
                (try simp only [Nat.reduceMul, Nat.zero_mul, Nat.zero_add, Nat.reduceAdd] at hf56_2)
                (try rw [show ((3 : Int)).toNat = 3 from rfl] at hx56_3)
                (try simp only [Nat.reduceMul, Nat.zero_mul, Nat.zero_add, Nat.reduceAdd] at hx56_3)
                (try rw [show ((3 : Int)).toNat = 3 from rfl] at hf56_3)
                (try simp only [Nat.reduceMul, Nat.zero_mul, Nat.zero_add, Nat.reduceAdd] at hf56_3)
                (try rw [show ((3 : Int)).toNat = 3 from rfl] at hx56_4)
                (try simp only [Nat.reduceMul, Nat.zero_mul, Nat.zero_add, Nat.reduceAdd] at hx56_4)
                (try rw [show ((3 : Int)).toNat = 3 from rfl] at hf56_4)
                (try simp only [Nat.reduceMul, Nat.zero_mul, Nat.zero_add, Nat.reduceAdd] at hf56_4)
                replace p56 := eq_true p56
                replace q56 := eq_true q56
                have HX57 := Aside0.mk (show Kd.S k69 69 wc w.heap.size (fun k_ => ((fun _ => True)) k_ ∧ ¬ ((fun _ => False)) k_) (.slice (some ⟨go56, 0, none⟩) t164.length co56) t164 from (by (with_reducible repeat (first | apply Kd.S_alloc | apply Kd.S_drewN | apply Kd.S_drew)); exact Kd.S_mono HO_6.out (fun k_ hk => ⟨trivial, fun e_ => e_⟩)))
                obtain ⟨oki57, ce57, hcl57, hM57, hcc57, hfr57, hoki57, hH57⟩ := Kd.S_elem HX57.out z69 (3 : Int) (by omega) (by have h_ : (3 : Int) < ((t164.length : Int) : Int) := of_decide_eq_true (by first | (with_reducible assumption) | assumption); first | exact h_ | (have e_ := (Kd.S_reads' HO_6.out).1; omega) | simpa using h_)
                obtain ⟨ve57_3, rfl, ge57_3⟩ := k69_openM hM57
                have HP57 := Kd.S_seg hH57 (by omega) (by have h_ : (3 : Int) < ((t164.length : Int) : Int) := of_decide_eq_true (by first | (with_reducible assumption) | assumption); first | exact h_ | (have e_ := (Kd.S_reads' HO_6.out).1; omega) | simpa using h_) (seg := [.int .i64 2]) (j := 4) (show 5 ≤ 5 from by decide) (x' := (⟨(rd_T69 t164 3).f0, (rd_T69 t164 3).f1, (rd_T69 t164 3).f2, (rd_T69 t164 3).f3, 2⟩ : S69)) (k69_mkM _ _ _ (⟨(rd_T69 t164 3).f0, (rd_T69 t164 3).f1, (rd_T69 t164 3).f2, (rd_T69 t164 3).f3, 2⟩ : S69) (Kd.R_mono ge57_3 (fun _ h_ => Or.inl h_))) (fun _ hk => hk) (fun k_ hk_ => hk_.elim)
                have hx57_4 := hcc57 4 _ rfl
                (try simp only [show (k69).sz = 5 from rfl, Nat.mul_one, Nat.add_zero] at hx57_4)
                (try rw [show ((3 : Int)).toNat = 3 from rfl] at hx57_4)
                (try simp only [Nat.reduceMul, Nat.zero_mul, Nat.zero_add, Nat.reduceAdd] at hx57_4)
                have hf57_4 := hfr57 4
                (try simp only [show (k69).sz = 5 from rfl, Nat.mul_one, Nat.add_zero] at hf57_4)
                (try rw [show ((3 : Int)).toNat = 3 from rfl] at hf57_4)
                (try simp only [Nat.reduceMul, Nat.zero_mul, Nat.zero_add, Nat.reduceAdd] at hf57_4)
                clear hcl57 hcc57 hfr57 hM57 hoki57 hH57
                go_wp2_with (first | ((with_reducible refine gate_store (t := 3) (p := 78) rfl ?_); refine store_event (t := 3) (p := 78) (v := ?vo_w58) (w1 := (wc.setCell ⟨go56, 19, none⟩ (.int .i64 2))) ?hg ?ho ?hn ?hr ?_; (case ho => rfl); (case hg => rfl); (case hn => rfl); (case hr => first | (go_simp; done) | (go_simp; rfl)); intro w58 hw; have hg : wc.grownBy w58 (some go56) := (by rw [hw]; exact HP57.2); have hp_ : Kd.S k69 69 w58 w.heap.size (fun _ => True) (.slice (some ⟨go56, 0, none⟩) t164.length co56) y177 := (by rw [hw, Ny177.out]; exact HP57.1); clear HP57; have n0_ := Aside0.mk (hp_); have n1_ := Aside0.mk ((by rw [hw]; exact below_set (HB.out) GB56.out : Below w.heap.size w w58)); clear HO_6; clear HB; have HO_6 := n0_; have HB := n1_; clear n0_ n1_; clear hg hw hp_))
                go_meet
                case rel => exact ⟨_, (y177), H', ⟨by have := HJ5.out; first | omega | exact Nat.le_refl _⟩, ⟨by (with_reducible repeat (first | apply Kd.S_alloc | apply Kd.S_drewN | apply Kd.S_drew)); exact HO_6.out⟩, ⟨by repeat (first | (with_reducible first | exact HB.out | apply below_alloc | apply pw_below_drewN | apply below_drew1) | exact HB.out)⟩⟩
               ·rw [if_neg c55] at H
                exact absurd H (by simp)
              ·rw [if_neg c54] at H
               have c54b0 : ((Int.tmod (IntKind.u64.wrap (a0)) 12) == 8) = false := beq_eq_false_iff_ne.mpr c54
               have c54b1 : ((Int.tmod (IntKind.u64.wrap (a0)) 12) != 8) = true := bne_iff_ne.mpr c54
               by_cases c59 : (Int.tmod (IntKind.u64.wrap (a0)) 12) = 9
               ·rw [if_pos c59] at H
                have c59b0 : ((Int.tmod (IntKind.u64.wrap (a0)) 12) == 9) = true := beq_iff_eq.mpr c59
                have c59b1 : ((Int.tmod (IntKind.u64.wrap (a0)) 12) != 9) = false := bne_eq_false_iff_eq.mpr c59
                clear c59
                by_cases c60 : 2 < (t164.length : Int)
                ·rw [if_pos c60] at H
                 have c60b0 : decide (2 < (t164.length : Int)) = true := decide_eq_true c60
                 have c60b1 : decide (2 < t164.length) = true := decide_eq_true (by omega)
                 clear c60
                 obtain ⟨y178, hy178⟩ : ∃ y_ : List (S69), y_ = (t164.set (2 : Int).toNat (⟨wrap64 (3 + (wrap64 (1 + (Go.bits .and .i64 a1 63)))), (rd_T69 t164 2).f1, (rd_T69 t164 2).f2, (rd_T69 t164 2).f3, (rd_T69 t164 2).f4⟩ : S69)) := ⟨_, rfl⟩
                 replace H : (stolelaw8_PageForms.j1 kj5 y178) = some r := by first | (rw [hy178]; with_reducible exact H) | (have H2_ := (Option.bind_some _ _).symm.trans H; rw [hy178]; with_reducible exact H2_) | (have H2_ := (Option.bind_some _ _).symm.trans H; with_reducible exact H2_) | with_reducible exact H | (rw [hy178]; exact H) | exact H
                 have Ny178 := Aside0.mk hy178
                 clear hy178
                 have H' := Aside0.mk H
                 clear H
                 have p61 : 0 ≤ (2 : Int) := (by omega)
                 have q61 : (2 : Int) < ((t164.length : Int) : Int) := of_decide_eq_true (by first | (with_reducible assumption) | assumption)
                 have qi61 : (2 < t164.length) = True := eq_true (by omega)
                 obtain ⟨go61, co61, eo61, gb61, gl61, cl61, HG61⟩ := Kd.S_form HO_6.out (by omega)
                 (first | cases eo61 | (injection eo61 with ea_ en_ ec_; (first | subst ea_ | (injection ea_ with ea_; subst ea_)); subst ec_; clear en_))
                 have GB61 := Aside0.mk gb61
                 have GG61 := Aside0.mk HG61
                 clear gb61 gl61 HG61
                 obtain ⟨_, ce61, hcl61, hM61, hcc61, hfr61, _, _⟩ := Kd.S_elem HO_6.out z69 (2 : Int) p61 q61
                 obtain ⟨ve61_3, rfl, ge61_3⟩ := k69_openM hM61
                 have hx61_0 : wc.cell? ⟨go61, (2 : Int).toNat * 5, none⟩ = some (.int .i64 ((rd_T69 t164 2).f0)) := hcc61 0 _ rfl
                 have hx61_1 : wc.cell? ⟨go61, (2 : Int).toNat * 5 + 1, none⟩ = some (.string ((rd_T69 t164 2).f1)) := hcc61 1 _ rfl
                 have hx61_2 : wc.cell? ⟨go61, (2 : Int).toNat * 5 + 2, none⟩ = some (.string ((rd_T69 t164 2).f2)) := hcc61 2 _ rfl
                 have hx61_3 : wc.cell? ⟨go61, (2 : Int).toNat * 5 + 3, none⟩ = some (ve61_3) := hcc61 3 _ rfl
                 have hx61_4 : wc.cell? ⟨go61, (2 : Int).toNat * 5 + 4, none⟩ = some (.int .i64 ((rd_T69 t164 2).f4)) := hcc61 4 _ rfl
                 have hf61_0 : wc.frozen? ⟨go61, (2 : Int).toNat * 5, none⟩ = false := hfr61 0
                 have hf61_1 : wc.frozen? ⟨go61, (2 : Int).toNat * 5 + 1, none⟩ = false := hfr61 1
                 have hf61_2 : wc.frozen? ⟨go61, (2 : Int).toNat * 5 + 2, none⟩ = false := hfr61 2
                 have hf61_3 : wc.frozen? ⟨go61, (2 : Int).toNat * 5 + 3, none⟩ = false := hfr61 3
                 have hf61_4 : wc.frozen? ⟨go61, (2 : Int).toNat * 5 + 4, none⟩ = false := hfr61 4
                 clear hcl61 hcc61 hfr61 hM61
                 (try rw [show ((2 : Int)).toNat = 2 from rfl] at hx61_0)
                 (try simp only [Nat.reduceMul, Nat.zero_mul, Nat.zero_add, Nat.reduceAdd] at hx61_0)
                 (try rw [show ((2 : Int)).toNat = 2 from rfl] at hf61_0)
                 (try simp only [Nat.reduceMul, Nat.zero_mul, Nat.zero_add, Nat.reduceAdd] at hf61_0)
                 (try rw [show ((2 : Int)).toNat = 2 from rfl] at hx61_1)
                 (try simp only [Nat.reduceMul, Nat.zero_mul, Nat.zero_add, Nat.reduceAdd] at hx61_1)
                 (try rw [show ((2 : Int)).toNat = 2 from rfl] at hf61_1)
                 (try simp only [Nat.reduceMul, Nat.zero_mul, Nat.zero_add, Nat.reduceAdd] at hf61_1)
                 (try rw [show ((2 : Int)).toNat = 2 from rfl] at hx61_2)
                 (try simp only [Nat.reduceMul, Nat.zero_mul, Nat.zero_add, Nat.reduceAdd] at hx61_2)
                 (try rw [show ((2 : Int)).toNat = 2 from rfl] at hf61_2)
                 (try simp only [Nat.reduceMul, Nat.zero_mul, Nat.zero_add, Nat.reduceAdd] at hf61_2)
                 (try rw [show ((2 : Int)).toNat = 2 from rfl] at hx61_3)
                 (try simp only [Nat.reduceMul, Nat.zero_mul, Nat.zero_add, Nat.reduceAdd] at hx61_3)
                 (try rw [show ((2 : Int)).toNat = 2 from rfl] at hf61_3)
                 (try simp only [Nat.reduceMul, Nat.zero_mul, Nat.zero_add, Nat.reduceAdd] at hf61_3)
                 (try rw [show ((2 : Int)).toNat = 2 from rfl] at hx61_4)
                 (try simp only [Nat.reduceMul, Nat.zero_mul, Nat.zero_add, Nat.reduceAdd] at hx61_4)
                 (try rw [show ((2 : Int)).toNat = 2 from rfl] at hf61_4)
                 (try simp only [Nat.reduceMul, Nat.zero_mul, Nat.zero_add, Nat.reduceAdd] at hf61_4)
                 replace p61 := eq_true p61
                 replace q61 := eq_true q61
                 have HX62 := Aside0.mk (show Kd.S k69 69 wc w.heap.size (fun k_ => ((fun _ => True)) k_ ∧ ¬ ((fun _ => False)) k_) (.slice (some ⟨go61, 0, none⟩) t164.length co61) t164 from (by (with_reducible repeat (first | apply Kd.S_alloc | apply Kd.S_drewN | apply Kd.S_drew)); exact Kd.S_mono HO_6.out (fun k_ hk => ⟨trivial, fun e_ => e_⟩)))
                 obtain ⟨oki62, ce62, hcl62, hM62, hcc62, hfr62, hoki62, hH62⟩ := Kd.S_elem HX62.out z69 (2 : Int) (by omega) (by have h_ : (2 : Int) < ((t164.length : Int) : Int) := of_decide_eq_true (by first | (with_reducible assumption) | assumption); first | exact h_ | (have e_ := (Kd.S_reads' HO_6.out).1; omega) | simpa using h_)
                 obtain ⟨ve62_3, rfl, ge62_3⟩ := k69_openM hM62
                 have HP62 := Kd.S_seg hH62 (by omega) (by have h_ : (2 : Int) < ((t164.length : Int) : Int) := of_decide_eq_true (by first | (with_reducible assumption) | assumption); first | exact h_ | (have e_ := (Kd.S_reads' HO_6.out).1; omega) | simpa using h_) (seg := [.int .i64 (wrap64 (3 + (wrap64 (1 + (Go.bits .and .i64 a1 63)))))]) (j := 0) (show 1 ≤ 5 from by decide) (x' := (⟨wrap64 (3 + (wrap64 (1 + (Go.bits .and .i64 a1 63)))), (rd_T69 t164 2).f1, (rd_T69 t164 2).f2, (rd_T69 t164 2).f3, (rd_T69 t164 2).f4⟩ : S69)) (k69_mkM _ _ _ (⟨wrap64 (3 + (wrap64 (1 + (Go.bits .and .i64 a1 63)))), (rd_T69 t164 2).f1, (rd_T69 t164 2).f2, (rd_T69 t164 2).f3, (rd_T69 t164 2).f4⟩ : S69) (Kd.R_mono ge62_3 (fun _ h_ => Or.inl h_))) (fun _ hk => hk) (fun k_ hk_ => hk_.elim)
                 have hx62_0 := hcc62 0 _ rfl
                 (try simp only [show (k69).sz = 5 from rfl, Nat.mul_one, Nat.add_zero] at hx62_0)
                 (try rw [show ((2 : Int)).toNat = 2 from rfl] at hx62_0)
                 (try simp only [Nat.reduceMul, Nat.zero_mul, Nat.zero_add, Nat.reduceAdd] at hx62_0)
                 have hf62_0 := hfr62 0
                 (try simp only [show (k69).sz = 5 from rfl, Nat.mul_one, Nat.add_zero] at hf62_0)
                 (try rw [show ((2 : Int)).toNat = 2 from rfl] at hf62_0)
                 (try simp only [Nat.reduceMul, Nat.zero_mul, Nat.zero_add, Nat.reduceAdd] at hf62_0)
                 clear hcl62 hcc62 hfr62 hM62 hoki62 hH62
                 go_wp2_with (first | ((with_reducible refine gate_store (t := 3) (p := 85) rfl ?_); refine store_event (t := 3) (p := 85) (v := ?vo_w63) (w1 := (wc.setCell ⟨go61, 10, none⟩ (.int .i64 (wrap64 (3 + (wrap64 (1 + (Go.bits .and .i64 a1 63)))))))) ?hg ?ho ?hn ?hr ?_; (case ho => rfl); (case hg => rfl); (case hn => rfl); (case hr => first | (go_simp; done) | (go_simp; rfl)); intro w63 hw; have hg : wc.grownBy w63 (some go61) := (by rw [hw]; exact HP62.2); have hp_ : Kd.S k69 69 w63 w.heap.size (fun _ => True) (.slice (some ⟨go61, 0, none⟩) t164.length co61) y178 := (by rw [hw, Ny178.out]; exact HP62.1); clear HP62; have n0_ := Aside0.mk (hp_); have n1_ := Aside0.mk ((by rw [hw]; exact below_set (HB.out) GB61.out : Below w.heap.size w w63)); clear HO_6; clear HB; have HO_6 := n0_; have HB := n1_; clear n0_ n1_; clear hg hw hp_))
                 go_meet
                 case rel => exact ⟨_, (y178), H', ⟨by have := HJ5.out; first | omega | exact Nat.le_refl _⟩, ⟨by (with_reducible repeat (first | apply Kd.S_alloc | apply Kd.S_drewN | apply Kd.S_drew)); exact HO_6.out⟩, ⟨by repeat (first | (with_reducible first | exact HB.out | apply below_alloc | apply pw_below_drewN | apply below_drew1) | exact HB.out)⟩⟩
                ·rw [if_neg c60] at H
                 exact absurd H (by simp)
               ·rw [if_neg c59] at H
                have c59b0 : ((Int.tmod (IntKind.u64.wrap (a0)) 12) == 9) = false := beq_eq_false_iff_ne.mpr c59
                have c59b1 : ((Int.tmod (IntKind.u64.wrap (a0)) 12) != 9) = true := bne_iff_ne.mpr c59
                by_cases c64 : (Int.tmod (IntKind.u64.wrap (a0)) 12) = 10
                ·rw [if_pos c64] at H
                 have c64b0 : ((Int.tmod (IntKind.u64.wrap (a0)) 12) == 10) = true := beq_iff_eq.mpr c64
                 have c64b1 : ((Int.tmod (IntKind.u64.wrap (a0)) 12) != 10) = false := bne_eq_false_iff_eq.mpr c64
                 clear c64
                 obtain ⟨y179, hy179⟩ : ∃ y_ : List (S39), y_ = (([(⟨(⟨#[]⟩ : ByteArray), (⟨#[]⟩ : ByteArray)⟩ : S39)] : List (S39))) := ⟨_, rfl⟩
                 replace H : (if 2 < (t164.length : Int) then (stolelaw8_PageForms.j1 kj5 (t164.set (2 : Int).toNat (⟨(rd_T69 t164 2).f0, (rd_T69 t164 2).f1, (rd_T69 t164 2).f2, y179, (rd_T69 t164 2).f4⟩ : S69))) else (none)) = some r := by first | (rw [hy179]; with_reducible exact H) | (have H2_ := (Option.bind_some _ _).symm.trans H; rw [hy179]; with_reducible exact H2_) | (have H2_ := (Option.bind_some _ _).symm.trans H; with_reducible exact H2_) | with_reducible exact H | (rw [hy179]; exact H) | exact H
                 have Ny179 := Aside0.mk hy179
                 clear hy179
                 by_cases c65 : 2 < (t164.length : Int)
                 ·rw [if_pos c65] at H
                  have c65b0 : decide (2 < (t164.length : Int)) = true := decide_eq_true c65
                  have c65b1 : decide (2 < t164.length) = true := decide_eq_true (by omega)
                  clear c65
                  obtain ⟨y182, hy182⟩ : ∃ y_ : List (S69), y_ = (t164.set (2 : Int).toNat (⟨(rd_T69 t164 2).f0, (rd_T69 t164 2).f1, (rd_T69 t164 2).f2, y179, (rd_T69 t164 2).f4⟩ : S69)) := ⟨_, rfl⟩
                  replace H : (stolelaw8_PageForms.j1 kj5 y182) = some r := by first | (rw [hy182]; with_reducible exact H) | (have H2_ := (Option.bind_some _ _).symm.trans H; rw [hy182]; with_reducible exact H2_) | (have H2_ := (Option.bind_some _ _).symm.trans H; with_reducible exact H2_) | with_reducible exact H | (rw [hy182]; exact H) | exact H
                  have Ny182 := Aside0.mk hy182
                  clear hy182
                  have H' := Aside0.mk H
                  clear H
                  go_wp2_with (first | ((with_reducible refine gate_dst (N := 90) rfl ?_); (try (refine gate_guard (by rfl) ?_; dsimp only)); refine Kd.R_lit k39 _ 39 ?hg (N := 90) ?hd (xs := ([(⟨(⟨#[]⟩ : ByteArray), (⟨#[]⟩ : ByteArray)⟩ : S39)] : List (S39))) (inner := [.string (⟨#[]⟩ : ByteArray), .string (⟨#[]⟩ : ByteArray)]) (ok := fun _ => True) (okp := fun _ => True) ?hr ?hp (fun _ hk => hk) trivial (Below.refl _ _) (Nat.le_refl _) (by simp) ?_; (case hd => rfl); (case hg => rfl); (case hr => first | (go_simp; done) | (go_simp; rfl)); (case hp => exact (Reps.c2 (show Kd.M k39 _ _ _ (⟨(⟨#[]⟩ : ByteArray), (⟨#[]⟩ : ByteArray)⟩ : S39) [.string (⟨#[]⟩ : ByteArray), .string (⟨#[]⟩ : ByteArray)] from (k39_mkM _ _ _ (⟨(⟨#[]⟩ : ByteArray), (⟨#[]⟩ : ByteArray)⟩ : S39) )) (Reps.none _ _))); intro v180 w67 ho68 hb hg_ hnew_; clear hg_ hnew_; (first | rw [← Ny179.out] at ho68 | (simp only [Int.reduceToNat] at ho68; rw [← Ny179.out] at ho68)); obtain ⟨Av180, cv180, ev180⟩ := Kd.R_slice ho68; subst ev180; have n0_ := Aside0.mk (Kd.S_elder' (by (with_reducible repeat (first | apply Kd.S_alloc | apply Kd.S_drewN | apply Kd.S_drew)); exact HO_6.out) (Kd.R_base ho68) hb); have n1_ := Aside0.mk (Kd.R_lower ho68 (below_size (by repeat (first | (with_reducible first | exact HB.out | apply below_alloc | apply pw_below_drewN | apply below_drew1) | exact HB.out)))); have n2_ := Aside0.mk (below_step (by repeat (first | (with_reducible first | exact HB.out | apply below_alloc | apply pw_below_drewN | apply below_drew1) | exact HB.out)) hb); clear HO_6; clear HB; have HO_6 := n0_; have HO181 := n1_; have HB := n2_; clear n0_ n1_ n2_; clear hb ho68; have p66 : 0 ≤ (2 : Int) := (by omega); have q66 : (2 : Int) < ((t164.length : Int) : Int) := of_decide_eq_true (by first | (with_reducible assumption) | assumption); have qi66 : (2 < t164.length) = True := eq_true (by omega); obtain ⟨go66, co66, eo66, gb66, gl66, cl66, HG66⟩ := Kd.S_form HO_6.out (by omega); (first | cases eo66 | (injection eo66 with ea_ en_ ec_; (first | subst ea_ | (injection ea_ with ea_; subst ea_)); subst ec_; clear en_)); have GB66 := Aside0.mk gb66; have GG66 := Aside0.mk HG66; clear gb66 gl66 HG66; obtain ⟨_, ce66, hcl66, hM66, hcc66, hfr66, _, _⟩ := Kd.S_elem HO_6.out z69 (2 : Int) p66 q66; obtain ⟨ve66_3, rfl, ge66_3⟩ := k69_openM hM66; have hx66_0 : w67.cell? ⟨go66, (2 : Int).toNat * 5, none⟩ = some (.int .i64 ((rd_T69 t164 2).f0)) := hcc66 0 _ rfl; have hx66_1 : w67.cell? ⟨go66, (2 : Int).toNat * 5 + 1, none⟩ = some (.string ((rd_T69 t164 2).f1)) := hcc66 1 _ rfl; have hx66_2 : w67.cell? ⟨go66, (2 : Int).toNat * 5 + 2, none⟩ = some (.string ((rd_T69 t164 2).f2)) := hcc66 2 _ rfl; have hx66_3 : w67.cell? ⟨go66, (2 : Int).toNat * 5 + 3, none⟩ = some (ve66_3) := hcc66 3 _ rfl; have hx66_4 : w67.cell? ⟨go66, (2 : Int).toNat * 5 + 4, none⟩ = some (.int .i64 ((rd_T69 t164 2).f4)) := hcc66 4 _ rfl; have hf66_0 : w67.frozen? ⟨go66, (2 : Int).toNat * 5, none⟩ = false := hfr66 0; have hf66_1 : w67.frozen? ⟨go66, (2 : Int).toNat * 5 + 1, none⟩ = false := hfr66 1; have hf66_2 : w67.frozen? ⟨go66, (2 : Int).toNat * 5 + 2, none⟩ = false := hfr66 2; have hf66_3 : w67.frozen? ⟨go66, (2 : Int).toNat * 5 + 3, none⟩ = false := hfr66 3; have hf66_4 : w67.frozen? ⟨go66, (2 : Int).toNat * 5 + 4, none⟩ = false := hfr66 4; clear hcl66 hcc66 hfr66 hM66; (try rw [show ((2 : Int)).toNat = 2 from rfl] at hx66_0); (try simp only [Nat.reduceMul, Nat.zero_mul, Nat.zero_add, Nat.reduceAdd] at hx66_0); (try rw [show ((2 : Int)).toNat = 2 from rfl] at hf66_0); (try simp only [Nat.reduceMul, Nat.zero_mul, Nat.zero_add, Nat.reduceAdd] at hf66_0); (try rw [show ((2 : Int)).toNat = 2 from rfl] at hx66_1); (try simp only [Nat.reduceMul, Nat.zero_mul, Nat.zero_add, Nat.reduceAdd] at hx66_1); (try rw [show ((2 : Int)).toNat = 2 from rfl] at hf66_1); (try simp only [Nat.reduceMul, Nat.zero_mul, Nat.zero_add, Nat.reduceAdd] at hf66_1); (try rw [show ((2 : Int)).toNat = 2 from rfl] at hx66_2); (try simp only [Nat.reduceMul, Nat.zero_mul, Nat.zero_add, Nat.reduceAdd] at hx66_2); (try rw [show ((2 : Int)).toNat = 2 from rfl] at hf66_2); (try simp only [Nat.reduceMul, Nat.zero_mul, Nat.zero_add, Nat.reduceAdd] at hf66_2); (try rw [show ((2 : Int)).toNat = 2 from rfl] at hx66_3); (try simp only [Nat.reduceMul, Nat.zero_mul, Nat.zero_add, Nat.reduceAdd] at hx66_3); (try rw [show ((2 : Int)).toNat = 2 from rfl] at hf66_3); (try simp only [Nat.reduceMul, Nat.zero_mul, Nat.zero_add, Nat.reduceAdd] at hf66_3); (try rw [show ((2 : Int)).toNat = 2 from rfl] at hx66_4); (try simp only [Nat.reduceMul, Nat.zero_mul, Nat.zero_add, Nat.reduceAdd] at hx66_4); (try rw [show ((2 : Int)).toNat = 2 from rfl] at hf66_4); (try simp only [Nat.reduceMul, Nat.zero_mul, Nat.zero_add, Nat.reduceAdd] at hf66_4); replace p66 := eq_true p66; replace q66 := eq_true q66; have n_ := Aside0.mk (Kd.S_mono (ok' := (fun k_ => some k_ ≠ ((Value.slice Av180 y179.length cv180) : Value).ownBlock)) HO_6.out (fun k_ hk => hk.2)); clear HO_6; have HO_6 := n_; clear n_; have HX69 := Aside0.mk (show Kd.S k69 69 w67 w.heap.size (fun k_ => ((fun _ => True)) k_ ∧ ¬ ((fun k_ => some k_ = ((Value.slice Av180 y179.length cv180) : Value).ownBlock)) k_) (.slice (some ⟨go66, 0, none⟩) t164.length co66) t164 from (by (with_reducible repeat (first | apply Kd.S_alloc | apply Kd.S_drewN | apply Kd.S_drew)); exact Kd.S_mono HO_6.out (fun k_ hk => ⟨trivial, fun e_ => hk e_⟩))); obtain ⟨oki69, ce69, hcl69, hM69, hcc69, hfr69, hoki69, hH69⟩ := Kd.S_elem HX69.out z69 (2 : Int) (by omega) (by have h_ : (2 : Int) < ((t164.length : Int) : Int) := of_decide_eq_true (by first | (with_reducible assumption) | assumption); first | exact h_ | (have e_ := (Kd.S_reads' HO_6.out).1; omega) | simpa using h_); obtain ⟨ve69_3, rfl, ge69_3⟩ := k69_openM hM69; have HP69 := Kd.S_seg hH69 (by omega) (by have h_ : (2 : Int) < ((t164.length : Int) : Int) := of_decide_eq_true (by first | (with_reducible assumption) | assumption); first | exact h_ | (have e_ := (Kd.S_reads' HO_6.out).1; omega) | simpa using h_) (seg := [(Value.slice Av180 y179.length cv180)]) (j := 3) (show 4 ≤ 5 from by decide) (x' := (⟨(rd_T69 t164 2).f0, (rd_T69 t164 2).f1, (rd_T69 t164 2).f2, y179, (rd_T69 t164 2).f4⟩ : S69)) (k69_mkM _ _ _ (⟨(rd_T69 t164 2).f0, (rd_T69 t164 2).f1, (rd_T69 t164 2).f2, y179, (rd_T69 t164 2).f4⟩ : S69) (Kd.R_mono (Kd.R_tight rfl (Kd.R_mono (ok' := fun k_ => ((fun _ => True)) k_ ∧ k_ ≠ go66) (Kd.R_apart' (HO181.out) (Kd.S_typed HO_6.out) (by decide)) (fun k_ hk => ⟨trivial, fun e_ => (hk.2) (by rw [e_]; rfl)⟩))) (fun _ h_ => Or.inr (h_)))) (fun _ hk => hk) (fun k_ hk_ => ((Kd.R_mono (ok' := fun k_ => ((fun _ => True)) k_ ∧ k_ ≠ go66) (Kd.R_apart' (HO181.out) (Kd.S_typed HO_6.out) (by decide)) (fun k_ hk => ⟨trivial, fun e_ => (hk.2) (by rw [e_]; rfl)⟩))).1 k_ hk_.symm); have hx69_3 := hcc69 3 _ rfl; (try simp only [show (k69).sz = 5 from rfl, Nat.mul_one, Nat.add_zero] at hx69_3); (try rw [show ((2 : Int)).toNat = 2 from rfl] at hx69_3); (try simp only [Nat.reduceMul, Nat.zero_mul, Nat.zero_add, Nat.reduceAdd] at hx69_3); have hf69_3 := hfr69 3; (try simp only [show (k69).sz = 5 from rfl, Nat.mul_one, Nat.add_zero] at hf69_3); (try rw [show ((2 : Int)).toNat = 2 from rfl] at hf69_3); (try simp only [Nat.reduceMul, Nat.zero_mul, Nat.zero_add, Nat.reduceAdd] at hf69_3); clear hcl69 hcc69 hfr69 hM69 hoki69 hH69) | ((with_reducible refine gate_store (t := 35) (p := 92) rfl ?_); refine store_event (t := 35) (p := 92) (v := ?vo_w70) (w1 := (w67.setCell ⟨go66, 13, none⟩ ((Value.slice Av180 y179.length cv180)))) ?hg ?ho ?hn ?hr ?_; (case ho => rfl); (case hg => rfl); (case hn => rfl); (case hr => first | (go_simp; done) | (go_simp; rfl)); intro w70 hw; have hg : w67.grownBy w70 (some go66) := (by rw [hw]; exact HP69.2); have hp_ : Kd.S k69 69 w70 w.heap.size (fun _ => True) (.slice (some ⟨go66, 0, none⟩) t164.length co66) y182 := (by rw [hw, Ny182.out]; exact HP69.1); clear HP69; have n0_ := Aside0.mk (hp_); have n1_ := Aside0.mk ((by rw [hw]; exact below_set (HB.out) GB66.out : Below w.heap.size w w70)); clear HO_6; clear HB; clear HO181; have HO_6 := n0_; have HB := n1_; clear n0_ n1_; clear hg hw hp_))
                  go_meet
                  case rel => exact ⟨_, (y182), H', ⟨by have := HJ5.out; first | omega | exact Nat.le_refl _⟩, ⟨by (with_reducible repeat (first | apply Kd.S_alloc | apply Kd.S_drewN | apply Kd.S_drew)); exact HO_6.out⟩, ⟨by repeat (first | (with_reducible first | exact HB.out | apply below_alloc | apply pw_below_drewN | apply below_drew1) | exact HB.out)⟩⟩
                 ·rw [if_neg c65] at H
                  exact absurd H (by simp)
                ·rw [if_neg c64] at H
                 have c64b0 : ((Int.tmod (IntKind.u64.wrap (a0)) 12) == 10) = false := beq_eq_false_iff_ne.mpr c64
                 have c64b1 : ((Int.tmod (IntKind.u64.wrap (a0)) 12) != 10) = true := bne_iff_ne.mpr c64
                 have H' := Aside0.mk H
                 clear H
                 go_wp2
                 go_meet
                 case rel => exact ⟨_, (([] : List (S69))), H', ⟨by have := HJ5.out; first | omega | exact Nat.le_refl _⟩, ⟨by first | exact Kd.S_nil _ _ _ _ _ | exact Kd.N_nil _ _ _ _ _ | exact Kd.V_nil _ _ _ _ _ | exact Kd.Q_nil _ _ _ _ _ | exact Kd.R_nil _ _ _ _ _⟩, ⟨by repeat (first | (with_reducible first | exact HB.out | apply below_alloc | apply pw_below_drewN | apply below_drew1) | exact HB.out)⟩⟩
     case rest =>
      clear HC13
      try clear c2
      try clear p2
      try clear c3
      try clear p3
      try clear q3
      try clear hx3
      try clear qi3
      try clear hf3
      try clear c4
      try clear p4
      try clear q4
      try clear hx4
      try clear qi4
      try clear hf4
      try clear c5
      try clear p5
      try clear q5
      try clear hx5
      try clear qi5
      try clear hf5
      try clear c6
      try clear p6
      try clear q6
      try clear hx6
      try clear qi6
      try clear hf6
      try clear c24
      try clear c24b0
      try clear c24b1
      try clear c25
      try clear c29
      try clear c29b0
      try clear c29b1
      try clear c30
      try clear c30b0
      try clear c30b1
      try clear c31
      try clear p31
      try clear q31
      try clear hx31
      try clear qi31
      try clear hf31
      try clear c32
      try clear hx32
      try clear hf32
      try clear c34
      try clear c34b0
      try clear c34b1
      try clear c35
      try clear c35b0
      try clear c35b1
      try clear c36
      try clear p36
      try clear q36
      try clear hx36
      try clear qi36
      try clear hf36
      try clear c37
      try clear hx37
      try clear hf37
      try clear c39
      try clear c39b0
      try clear c39b1
      try clear c40
      try clear c40b0
      try clear c40b1
      try clear c41
      try clear p41
      try clear q41
      try clear hx41
      try clear qi41
      try clear hf41
      try clear c42
      try clear hx42
      try clear hf42
      try clear c44
      try clear c44b0
      try clear c44b1
      try clear c45
      try clear c45b0
      try clear c45b1
      try clear c46
      try clear p46
      try clear q46
      try clear hx46
      try clear qi46
      try clear hf46
      try clear c47
      try clear hx47
      try clear hf47
      try clear c49
      try clear c49b0
      try clear c49b1
      try clear c50
      try clear c50b0
      try clear c50b1
      try clear c51
      try clear p51
      try clear q51
      try clear hx51
      try clear qi51
      try clear hf51
      try clear c52
      try clear hx52
      try clear hf52
      try clear c54
      try clear c54b0
      try clear c54b1
      try clear c55
      try clear c55b0
      try clear c55b1
      try clear c56
      try clear p56
      try clear q56
      try clear hx56
      try clear qi56
      try clear hf56
      try clear c57
      try clear hx57
      try clear hf57
      try clear c59
      try clear c59b0
      try clear c59b1
      try clear c60
      try clear c60b0
      try clear c60b1
      try clear c61
      try clear p61
      try clear q61
      try clear hx61
      try clear qi61
      try clear hf61
      try clear c62
      try clear hx62
      try clear hf62
      try clear c64
      try clear c64b0
      try clear c64b1
      try clear p64
      try clear c65
      try clear c65b0
      try clear c65b1
      try clear c66
      try clear p66
      try clear q66
      try clear hx66
      try clear qi66
      try clear hf66
      try clear c69
      try clear hx69
      try clear hf69
      try clear hx31_0
      try clear hx31_1
      try clear hx31_2
      try clear hx31_3
      try clear hx31_4
      try clear hx32_4
      try clear hx36_0
      try clear hx36_1
      try clear hx36_2
      try clear hx36_3
      try clear hx36_4
      try clear hx37_4
      try clear hx41_0
      try clear hx41_1
      try clear hx41_2
      try clear hx41_3
      try clear hx41_4
      try clear hx42_0
      try clear hx46_0
      try clear hx46_1
      try clear hx46_2
      try clear hx46_3
      try clear hx46_4
      try clear hx47_2
      try clear hx51_0
      try clear hx51_1
      try clear hx51_2
      try clear hx51_3
      try clear hx51_4
      try clear hx52_1
      try clear hx56_0
      try clear hx56_1
      try clear hx56_2
      try clear hx56_3
      try clear hx56_4
      try clear hx57_4
      try clear hx61_0
      try clear hx61_1
      try clear hx61_2
      try clear hx61_3
      try clear hx61_4
      try clear hx62_0
      try clear hx66_0
      try clear hx66_1
      try clear hx66_2
      try clear hx66_3
      try clear hx66_4
      try clear hx69_3
      try clear p31
      try clear p36
      try clear p41
      try clear p46
      try clear p51
      try clear p56
      try clear p61
      try clear p66
      try clear q31
      try clear q36
      try clear q41
      try clear q46
      try clear q51
      try clear q56
      try clear q61
      try clear q66
      obtain ⟨kq, x6_12, HA, HJ12, HO_6, HB⟩ := hcut
      cases kq with
      | zero => exact absurd HA.out (by simp [stolelaw8_PageForms.j1])
      | succ kj12 =>
       have H := HA.out
       clear HA
       simp only [stolelaw8_PageForms.j1] at H
       replace H := Option.bind_eq_some_iff.mp H
       obtain ⟨⟨t183, t184⟩, A710, H⟩ := H
       replace H : ((page_Texts.f kj12 x6_12).bind fun bt185 => (if t183.toList = ([] : List UInt8) then ((stolelaw0_Num.f t184).bind fun t189 => (if t189 = 800 then (if (bt185.1.length : Int) = 0 then ((stolelaw0_Num.f bt185.2).bind fun t190 => (some (t190 == 800))) else (some false)) else (some false))) else (some false))) = some r := H
       have A71 := Aside0.mk A710
       clear A710
       replace H := Option.bind_eq_some_iff.mp H
       obtain ⟨⟨t185, t186⟩, A720, H⟩ := H
       replace H : (if t183.toList = ([] : List UInt8) then ((stolelaw0_Num.f t184).bind fun t189 => (if t189 = 800 then (if (t185.length : Int) = 0 then ((stolelaw0_Num.f t186).bind fun t190 => (some (t190 == 800))) else (some false)) else (some false))) else (some false)) = some r := H
       have A72 := Aside0.mk A720
       clear A720
       by_cases c73 : t183.toList = ([] : List UInt8)
       ·rw [if_pos c73] at H
        have c73b0 : (t183.toList == ([] : List UInt8)) = true := beq_iff_eq.mpr c73
        (try (have c73b4 : (t183.toList.isEmpty) = true := by simpa only [nil_beq] using c73b0))
        have c73b1 : (t183.toList != ([] : List UInt8)) = false := bne_eq_false_iff_eq.mpr c73
        clear c73
        replace H := Option.bind_eq_some_iff.mp H
        obtain ⟨t189, A740, H⟩ := H
        replace H : (if t189 = 800 then (if (t185.length : Int) = 0 then ((stolelaw0_Num.f t186).bind fun t190 => (some (t190 == 800))) else (some false)) else (some false)) = some r := H
        have A74 := Aside0.mk A740
        clear A740
        by_cases c75 : t189 = 800
        ·rw [if_pos c75] at H
         have c75b0 : (t189 == 800) = true := beq_iff_eq.mpr c75
         have c75b1 : (t189 != 800) = false := bne_eq_false_iff_eq.mpr c75
         clear c75
         by_cases c76 : (t185.length : Int) = 0
         ·rw [if_pos c76] at H
          have c76b0 : ((t185.length : Int) == 0) = true := beq_iff_eq.mpr c76
          have c76b1 : ((t185.length : Int) != 0) = false := bne_eq_false_iff_eq.mpr c76
          clear c76
          replace H := Option.bind_eq_some_iff.mp H
          obtain ⟨t190, A770, H⟩ := H
          replace H : (some (t190 == 800)) = some r := H
          have A77 := Aside0.mk A770
          clear A770
          obtain rfl := Option.some.inj H
          obtain ⟨Ao78, co78, eo78⟩ := Kd.S_slice HO_6.out
          subst eo78
          go_wp2_with (first | ((with_reducible refine gate_callee (f := 29) rfl ?_); refine goesL_ (some 95) rfl rfl Tryz.func29 (by kernel_rfl) rfl #[.slice Ao78 x6_12.length co78] rfl (by (try simp only [List.map_toArray, List.map_cons, List.map_nil]); first | done | rfl | (simp only [List.length_drop, List.length_take]; rfl)) ?_; (with_reducible refine (page_Skeleton.calls _ _ x6_12 t183 t184 _ (tabs_below HT.out (by repeat (first | (with_reducible first | exact HB.out | apply below_alloc | apply pw_below_drewN | apply below_drew1) | exact HB.out))) ?side1 ?side2 A71.out).mono ?_); (case side1 => repeat (first | exact (Kd.S_reads' HO_6.out).2.2 | (with_reducible refine Kd.C_alloc ?_ _) | (with_reducible refine Kd.C_drewN ?_ _) | (with_reducible refine Kd.C_drew ?_))); (case side2 => exact (Kd.S_reads' HO_6.out).2.1); rintro e w79 ⟨rfl, hb⟩; refine ⟨_, rfl, ?_⟩; have n0_ := Aside0.mk (Kd.S_below (by (with_reducible repeat (first | apply Kd.S_alloc | apply Kd.S_drewN | apply Kd.S_drew)); exact HO_6.out) hb); have n1_ := Aside0.mk (below_step (by repeat (first | (with_reducible first | exact HB.out | apply below_alloc | apply pw_below_drewN | apply below_drew1) | exact HB.out)) hb); clear HO_6; clear HB; have HO_6 := n0_; have HB := n1_; clear n0_ n1_; (try clear hb); (try clear hb2); (try clear hk); (try clear hi)) | ((with_reducible refine gate_callee (f := 31) rfl ?_); refine goesL_ (some 100) rfl rfl Tryz.func31 (by kernel_rfl) rfl #[.slice Ao78 x6_12.length co78] rfl (by (try simp only [List.map_toArray, List.map_cons, List.map_nil]); first | done | rfl | (simp only [List.length_drop, List.length_take]; rfl)) ?_; (with_reducible refine (page_Texts.calls kj12 _ _ x6_12 t185 t186 _ ?side1 ?side2 A72.out).mono ?_); (case side1 => repeat (first | exact (Kd.S_reads' HO_6.out).2.2 | (with_reducible refine Kd.C_alloc ?_ _) | (with_reducible refine Kd.C_drewN ?_ _) | (with_reducible refine Kd.C_drew ?_))); (case side2 => exact (Kd.S_reads' HO_6.out).2.1); rintro e w80 ⟨v187, rfl, ho0, hb⟩; refine ⟨_, rfl, ?_⟩; have n0_ := Aside0.mk (Kd.S_below (by (with_reducible repeat (first | apply Kd.S_alloc | apply Kd.S_drewN | apply Kd.S_drew)); exact HO_6.out) hb); have n1_ := Aside0.mk (Kd.R_lower ho0 (below_size (by repeat (first | (with_reducible first | exact HB.out | apply below_alloc | apply pw_below_drewN | apply below_drew1) | exact HB.out)))); have n2_ := Aside0.mk (below_step (by repeat (first | (with_reducible first | exact HB.out | apply below_alloc | apply pw_below_drewN | apply below_drew1) | exact HB.out)) hb); clear HO_6; clear HB; have HO_6 := n0_; have HO188 := n1_; have HB := n2_; clear n0_ n1_ n2_; (try clear hb); (try clear hb2); (try clear hk); (try clear hi); (try clear ho0)) | (go_at_call 21; (with_reducible refine (stolelaw0_Num.calls t184 t189 _ A74.out).mono ?_); rintro e w' ⟨rfl, ⟨nd, rfl⟩⟩; obtain ⟨Ao81, co81, eo81⟩ := Kd.R_slice HO188.out; subst eo81) | (go_at_call 21; (with_reducible refine (stolelaw0_Num.calls t186 t190 _ A77.out).mono ?_); rintro e w' ⟨rfl, ⟨nd, rfl⟩⟩))
          go_ret
          exact ⟨by first | rfl | (simp [errW_none, errW_some] <;> rfl) | (simp [*, errW_none, errW_some] <;> rfl), by repeat (first | (with_reducible first | exact HB.out | apply below_alloc | apply pw_below_drewN | apply below_drew1) | exact HB.out)⟩
         ·rw [if_neg c76] at H
          have c76b0 : ((t185.length : Int) == 0) = false := beq_eq_false_iff_ne.mpr c76
          have c76b1 : ((t185.length : Int) != 0) = true := bne_iff_ne.mpr c76
          have c76b2 : ¬ (t185 = []) := fun h_ => c76 (by rw [h_]; rfl)
          obtain rfl := Option.some.inj H
          exact absurd hr (by simp)
        ·rw [if_neg c75] at H
         have c75b0 : (t189 == 800) = false := beq_eq_false_iff_ne.mpr c75
         have c75b1 : (t189 != 800) = true := bne_iff_ne.mpr c75
         obtain rfl := Option.some.inj H
         exact absurd hr (by simp)
       ·rw [if_neg c73] at H
        have c73b0 : (t183.toList == ([] : List UInt8)) = false := beq_eq_false_iff_ne.mpr c73
        (try (have c73b4 : (t183.toList.isEmpty) = false := by simpa only [nil_beq] using c73b0))
        have c73b1 : (t183.toList != ([] : List UInt8)) = true := bne_iff_ne.mpr c73
        obtain rfl := Option.some.inj H
        exact absurd hr (by simp)
 ·replace c4 := Bool.eq_false_iff.mpr c4
  subst c4
  have H1 : (some false) = some r := by rw [if_neg (show ¬ (false = true) by decide)] at H; exact H
  clear H
  have H := H1
  clear H1
  obtain rfl := Option.some.inj H
  exact absurd hr (by simp)
def stolelaw8_PageForms.Pure : Prop := ∀ (a0 : Int) (a1 : Int), (Lit.int .i64 a0).wf = true → (Lit.int .i64 a1).wf = true → ∃ k, stolelaw8_PageForms.f k a0 a1 = some true
theorem stolelaw8_PageForms.walk (P : stolelaw8_PageForms.Pure) (a0 : Int) (a1 : Int) (w : World) (hT : Tabs w) (w0 : (Lit.int .i64 a0).wf = true) (w1 : (Lit.int .i64 a1).wf = true) :
  Calls Tryz.prog 7 #[.int .i64 a0, .int .i64 a1] w fun e w' => e = .returned (.bool true) ∧ Below w.heap.size w w' := by
 obtain ⟨k, h⟩ := P a0 a1 w0 w1
 refine (stolelaw8_PageForms.calls k a0 a1 true w hT h rfl).mono ?_
 rintro e w' ⟨rfl, hd⟩
 exact ⟨rfl, hd⟩
end Go.Proofs.YtfmcdlbbbmeolaaGreatDoor.XP
end
section
namespace Go.Proofs.YtfmcdlbbbmeolaaGreatDoor.XP
end Go.Proofs.YtfmcdlbbbmeolaaGreatDoor.XP
end
section
namespace Go.Proofs.YtfmcdlbbbmeolaaGreatDoor.P8
open Go.RowKit Go.Proofs.YtfmcdlbbbmeolaaGreatDoor.XK Go.Proofs.YtfmcdlbbbmeolaaGreatDoor.XP Go.Proofs.YtfmcdlbbbmeolaaGreatDoor.Tk Go.Proofs.YtfmcdlbbbmeolaaGreatDoor.ExtP Go.Proofs.YtfmcdlbbbmeolaaGreatDoor.Base Go.Proofs.YtfmcdlbbbmeolaaGreatDoorW.PrintWords Go.Proofs.YtfmcdlbbbmeolaaGreatDoorW.PrintLast Go.Proofs.YtfmcdlbbbmeolaaGreatDoorW.PrintMore
open Go.Proofs.YtfmcdlbbbmeolaaGreatDoor.Tr (parseF skR skS it4 tkS mayNs parse_ok parse_err skel_parse skel_f NodB toks noText tkS_noText)
set_option linter.unusedVariables false
set_option linter.unusedSimpArgs false
set_option maxRecDepth 100000
theorem parse_f (b : ByteArray) : page_Parse.f b = some (parseF b.data.toList) := by
  unfold page_Parse.f tok_Tokens.f parseF
  rw [tokens_eq]
  simp only [Option.bind_some]
  have hb := (toks_bnd b.data.toList).1
  split
  · unfold tree_Build.f
    rw [if_pos (by omega)]; rfl
  · rfl
theorem parse_long (n : Nat) (h : 65536 < n) (x : Int) : page_Parse.f (strOfNums (List.replicate n x)) = some ([], 500) := by
  rw [parse_f]
  unfold parseF tokensM
  rw [strOfNums_data, List.length_map, List.length_replicate, if_pos h]; rfl
theorem skel_nil : page_Skeleton.f [] = some (⟨#[]⟩, 800) := by
  rw [skel_f [] (by decide) (fun x hx => (by cases hx))]; rfl
def pg0 : List UInt8 := [60, 112, 32, 97, 61, 49, 62, 120, 60, 98, 62, 121, 60, 47, 98, 62, 60, 47, 112, 62, 60, 33, 113, 62]
def ns0 : List S69 := [⟨0, ⟨#[]⟩, ⟨#[]⟩, [], -1⟩, ⟨1, ⟨#[112]⟩, ⟨#[]⟩, [⟨⟨#[97]⟩, ⟨#[49]⟩⟩], 0⟩, ⟨2, ⟨#[]⟩, ⟨#[120]⟩, [], 1⟩, ⟨1, ⟨#[98]⟩, ⟨#[]⟩, [], 1⟩, ⟨2, ⟨#[]⟩, ⟨#[121]⟩, [], 3⟩, ⟨3, ⟨#[]⟩, ⟨#[113]⟩, [], 0⟩]
theorem pg0_eq : parseF pg0 = (ns0, 0) := by kernel_rfl
theorem sk0_eq : skR ns0 = ([48, 32, 101, 32, 112, 32, 97, 10, 49, 32, 101, 32, 98, 10, 48, 32, 99, 32, 113, 10], 0) := by kernel_rfl
set_option maxHeartbeats 4000000 in
theorem awake_ok : stolelaw8_awake.f 60 = some true := by
  have h1 : page_Parse.f ⟨pg0.toArray⟩ = some (ns0, 0) := by rw [parse_f]; show some (parseF pg0) = _; rw [pg0_eq]
  have h2 : page_Skeleton.f ns0 = some (⟨(skR ns0).1.toArray⟩, (skR ns0).2) := by have := skel_parse pg0; rwa [pg0_eq] at this
  rw [sk0_eq] at h2
  unfold pg0 at h1
  unfold stolelaw8_awake.f
  rw [h1, parse_long 65537 (by decide), skel_nil]
  simp only [Option.bind_some]
  rw [h2]
  decide +kernel
theorem awake_ev : Ev (fun k => stolelaw8_awake.f k) true := Ev.of (fun k => stolelaw8_awake.mono k) awake_ok
end Go.Proofs.YtfmcdlbbbmeolaaGreatDoor.P8
end
section
namespace Go.Proofs.YtfmcdlbbbmeolaaGreatDoor.P8
open Go.RowKit Go.Proofs.YtfmcdlbbbmeolaaGreatDoor.XK Go.Proofs.YtfmcdlbbbmeolaaGreatDoor.XP Go.Proofs.YtfmcdlbbbmeolaaGreatDoor.Tk Go.Proofs.YtfmcdlbbbmeolaaGreatDoor.ExtP Go.Proofs.YtfmcdlbbbmeolaaGreatDoor.Base Go.Proofs.YtfmcdlbbbmeolaaGreatDoorW.PrintWords Go.Proofs.YtfmcdlbbbmeolaaGreatDoorW.PrintLast Go.Proofs.YtfmcdlbbbmeolaaGreatDoorW.PrintMore
open Go.Proofs.YtfmcdlbbbmeolaaGreatDoor.Tr (parseF skR skS it4 tkS mayNs parse_ok parse_err skel_parse skel_f NodB)
set_option linter.unusedVariables false
set_option linter.unusedSimpArgs false
set_option maxRecDepth 100000
def ns1 : List S69 := [⟨0, ⟨#[]⟩, ⟨#[]⟩, [], -1⟩, ⟨1, ⟨#[112]⟩, ⟨#[]⟩, [⟨⟨#[97]⟩, ⟨#[98]⟩⟩], 0⟩, ⟨2, ⟨#[]⟩, ⟨#[120]⟩, [], 1⟩, ⟨3, ⟨#[]⟩, ⟨#[113]⟩, [], 1⟩]
theorem pg1_eq : parseF [60, 112, 32, 97, 61, 98, 62, 120, 60, 33, 113, 62, 60, 47, 112, 62] = (ns1, 0) := by kernel_rfl
def nodBb (x : S69) : Bool := decide (x.f1.size ≤ 32) && (decide (x.f0 = 2) || decide (x.f2.size ≤ 65536)) && decide (x.f3.length ≤ 32) && x.f3.all fun a => decide (a.f0.size ≤ 32)
theorem nodb_of {ns : List S69} (h : ns.all nodBb = true) : ∀ x ∈ ns, NodB x := by
  intro x hx
  rw [List.all_eq_true] at h
  have := h x hx
  unfold nodBb at this
  simp only [Bool.and_eq_true, Bool.or_eq_true, decide_eq_true_eq, List.all_eq_true] at this
  obtain ⟨⟨⟨a1, a2⟩, a3⟩, a4⟩ := this
  exact ⟨a1, fun e => a2.resolve_left e, a3, a4⟩
theorem forms_end (ns : List S69) (h : mayNs ns = false) (hl : ns.length ≤ 4096) (hb : ns.all nodBb = true) : Ev (fun k => stolelaw8_PageForms.j1 k ns) true := by
  have hs : skR ns = ([], 800) := by unfold skR; rw [if_neg (by rw [h]; simp)]
  refine Ev.step (f := fun k => _) (fun k => by rw [stolelaw8_PageForms.j1]) ?_
  refine Ev.bindC (skel_f ns hl (nodb_of hb)) ?_
  refine Ev.bind (a := (([] : List ByteArray), (800 : Int))) (Ev.congr (f := fun k => _) (fun k => by rw [page_Texts.f]) (Ev.bindC (s := false) (by unfold page_may.f; rw [h]) (Ev.neg Bool.false_ne_true (Ev.now _)))) ?_
  rw [hs]
  exact Ev.pos (by rw [ByteArray.toList_eq]) (Ev.bindC (s := 800) (by unfold stolelaw0_Num.f; rfl) (Ev.pos rfl (Ev.pos rfl (Ev.bindC (s := 800) (by unfold stolelaw0_Num.f; rfl) (Ev.now _)))))
theorem and_maskP (x : Int) (i : Nat) (hi : i ≤ 62) : Go.bits .and .i64 x (2 ^ i - 1) = x % 2 ^ i := by
  have hpos : 0 < 2 ^ i := Nat.two_pow_pos i
  have hlt : 2 ^ i ≤ 2 ^ 62 := Nat.pow_le_pow_right (by decide) hi
  have hc : ((2 : Int) ^ i - 1) = ((2 ^ i - 1 : Nat) : Int) := by
    rw [Int.natCast_sub hpos]; simp
  have hm : (2 ^ i - 1) % 2 ^ IntKind.i64.bits = 2 ^ i - 1 := Nat.mod_eq_of_lt (by show 2 ^ i - 1 < 2 ^ 64; omega)
  have hd : (2 : Int) ^ i ∣ 2 ^ 64 := ⟨2 ^ (64 - i), by rw [← Int.pow_add]; congr 1; omega⟩
  have hx0 : 0 ≤ x % 2 ^ 64 := Int.emod_nonneg _ (by decide)
  have e : ((BitVec.ofInt IntKind.i64.bits x).toNat : Int) = x % 2 ^ 64 := by
    rw [BitVec.toNat_ofInt, Int.toNat_of_nonneg (by exact hx0)]; rfl
  have e2 : (((BitVec.ofInt IntKind.i64.bits x).toNat % 2 ^ i : Nat) : Int) = x % 2 ^ i := by
    rw [Int.natCast_emod, e]
    have : ((2 ^ i : Nat) : Int) = (2 : Int) ^ i := by simp
    rw [this, Int.emod_emod_of_dvd _ hd]
  rw [hc]
  simp only [Go.bits, BitVec.toNat_and, BitVec.ofInt_natCast, BitVec.toNat_ofNat]
  rw [hm, Nat.and_two_pow_sub_one_eq_mod, IntKind.wrap_i64, e2]
  have h0 : 0 ≤ x % 2 ^ i := Int.emod_nonneg _ (by have : (0:Int) < 2 ^ i := by exact_mod_cast hpos
                                                   omega)
  have h1 : x % 2 ^ i < 2 ^ i := Int.emod_lt_of_pos _ (by exact_mod_cast hpos)
  have h2 : (2 : Int) ^ i ≤ 2 ^ 62 := by exact_mod_cast hlt
  omega
theorem and63 (x : Int) : ∃ n : Nat, n < 64 ∧ wrap64 (1 + Go.bits .and .i64 x 63) = ((n + 1 : Nat) : Int) := by
  have h := and_maskP x 6 (by decide)
  have h2 : Go.bits .and .i64 x 63 = x % 64 := by simpa using h
  refine ⟨(x % 64).toNat, by omega, ?_⟩
  rw [h2]; unfold wrap64; omega
theorem c4 : ∀ n : Fin 64, mayNs (ns1.set (1 : Int).toNat ⟨(rd_T69 ns1 1).f0, (rd_T69 ns1 1).f1, (rd_T69 ns1 1).f2, (rd_T69 ns1 1).f3, wrap64 (-((n.1 + 1 : Nat) : Int))⟩) = false ∧
    (ns1.set (1 : Int).toNat ⟨(rd_T69 ns1 1).f0, (rd_T69 ns1 1).f1, (rd_T69 ns1 1).f2, (rd_T69 ns1 1).f3, wrap64 (-((n.1 + 1 : Nat) : Int))⟩).all nodBb = true := by decide +kernel
theorem c9 : ∀ n : Fin 64, mayNs (ns1.set (2 : Int).toNat ⟨wrap64 (3 + ((n.1 + 1 : Nat) : Int)), (rd_T69 ns1 2).f1, (rd_T69 ns1 2).f2, (rd_T69 ns1 2).f3, (rd_T69 ns1 2).f4⟩) = false ∧
    (ns1.set (2 : Int).toNat ⟨wrap64 (3 + ((n.1 + 1 : Nat) : Int)), (rd_T69 ns1 2).f1, (rd_T69 ns1 2).f2, (rd_T69 ns1 2).f3, (rd_T69 ns1 2).f4⟩).all nodBb = true := by decide +kernel
theorem forms_go (x0 : Int) (n : Nat) (hn : n < 64) : Ev (fun k => stolelaw8_PageForms.j0 k x0 ((n + 1 : Nat) : Int) ns1 false) true := by
  refine Ev.step (f := fun k => _) (fun k => by rw [stolelaw8_PageForms.j0]) ?_
  refine Ev.neg (by simp) ?_
  obtain ⟨m, hm⟩ : ∃ m, Int.tmod (IntKind.u64.wrap x0) 12 = m := ⟨_, rfl⟩
  rw [hm]
  have K : ∀ ns : List S69, mayNs ns = false ∧ ns.all nodBb = true → ns.length ≤ 4096 → Ev (fun k => stolelaw8_PageForms.j1 k ns) true := fun ns h hl => forms_end ns h.1 hl h.2
  by_cases h0 : m = 0
  · exact Ev.pos h0 (Ev.pos (by decide) (K _ ⟨by decide +kernel, by decide +kernel⟩ (Nat.le_trans (Nat.le_of_eq (List.length_set ..)) (by decide))))
  refine Ev.neg h0 ?_
  by_cases h1 : m = 1
  · exact Ev.pos h1 (Ev.pos (by decide) (K _ ⟨by decide +kernel, by decide +kernel⟩ (Nat.le_trans (Nat.le_of_eq (List.length_set ..)) (by decide))))
  refine Ev.neg h1 ?_
  by_cases h2 : m = 2
  · exact Ev.pos h2 (Ev.pos (by decide) (K _ ⟨by decide +kernel, by decide +kernel⟩ (Nat.le_trans (Nat.le_of_eq (List.length_set ..)) (by decide))))
  refine Ev.neg h2 ?_
  by_cases h3 : m = 3
  · exact Ev.pos h3 (Ev.pos (by decide) (K _ ⟨by decide +kernel, by decide +kernel⟩ (Nat.le_trans (Nat.le_of_eq (List.length_set ..)) (by decide))))
  refine Ev.neg h3 ?_
  by_cases h4 : m = 4
  · exact Ev.pos h4 (Ev.pos (by decide) (K _ (c4 ⟨n, hn⟩) (Nat.le_trans (Nat.le_of_eq (List.length_set ..)) (by decide))))
  refine Ev.neg h4 ?_
  by_cases h5 : m = 5
  · exact Ev.pos h5 (Ev.pos (by decide) (K _ ⟨by decide +kernel, by decide +kernel⟩ (Nat.le_trans (Nat.le_of_eq (List.length_set ..)) (by decide))))
  refine Ev.neg h5 ?_
  by_cases h6 : m = 6
  · exact Ev.pos h6 (Ev.pos (by decide) (K _ ⟨by decide +kernel, by decide +kernel⟩ (Nat.le_trans (Nat.le_of_eq (List.length_set ..)) (by decide))))
  refine Ev.neg h6 ?_
  by_cases h7 : m = 7
  · exact Ev.pos h7 (Ev.pos (by decide) (K _ ⟨by decide +kernel, by decide +kernel⟩ (Nat.le_trans (Nat.le_of_eq (List.length_set ..)) (by decide))))
  refine Ev.neg h7 ?_
  by_cases h8 : m = 8
  · exact Ev.pos h8 (Ev.pos (by decide) (K _ ⟨by decide +kernel, by decide +kernel⟩ (Nat.le_trans (Nat.le_of_eq (List.length_set ..)) (by decide))))
  refine Ev.neg h8 ?_
  by_cases h9 : m = 9
  · exact Ev.pos h9 (Ev.pos (by decide) (K _ (c9 ⟨n, hn⟩) (Nat.le_trans (Nat.le_of_eq (List.length_set ..)) (by decide))))
  refine Ev.neg h9 ?_
  by_cases h10 : m = 10
  · exact Ev.pos h10 (Ev.pos (by decide) (K _ ⟨by decide +kernel, by decide +kernel⟩ (Nat.le_trans (Nat.le_of_eq (List.length_set ..)) (by decide))))
  refine Ev.neg h10 ?_
  exact K _ ⟨by decide, by decide⟩ (by decide)
theorem pageForms_plain (a0 a1 : Int) (w0 : (Lit.int .i64 a0).wf = true) (w1 : (Lit.int .i64 a1).wf = true) : ∃ k, stolelaw8_PageForms.f k a0 a1 = some true := by
  refine Ev.rounds ?_
  refine Ev.congr (f := fun k => _) (fun k => by rw [stolelaw8_PageForms.f]) ?_
  refine Ev.bind awake_ev (Ev.pos rfl ?_)
  refine Ev.bindC (s := (ns1, 0)) (by rw [parse_f]; show some (parseF [60, 112, 32, 97, 61, 98, 62, 120, 60, 33, 113, 62, 60, 47, 112, 62]) = _; rw [pg1_eq]) ?_
  refine Ev.bindC (s := 0) (by unfold stolelaw0_Num.f; rfl) (Ev.pos rfl ?_)
  obtain ⟨n, hn, e⟩ := and63 a1
  rw [e]
  exact forms_go a0 n hn
end Go.Proofs.YtfmcdlbbbmeolaaGreatDoor.P8
end
section
namespace Go.Proofs.YtfmcdlbbbmeolaaGreatDoor.RowPageForms
open Go.ChangeShapes Go.WideShapes Go.ChangeAt Go.RowKit Go.Proofs.YtfmcdlbbbmeolaaGreatDoorW.PrintWords Go.Proofs.YtfmcdlbbbmeolaaGreatDoorW.PrintLast Go.Proofs.YtfmcdlbbbmeolaaGreatDoor.ExtP
open Go.ChangeMaps (open_string shut_string)
set_option linter.unusedVariables false
theorem own : ownKnob Tryz.prog.godebug = none := by kernel_rfl
set_option maxRecDepth 100000 in
set_option maxHeartbeats 4000000 in
theorem contract (H : Type) (enc : TypeId × Value → H) (W : World) (base : Nat) (args : Array Value) (ds gs : List (DataW H)) (before : List MemPlace)
    (hval0 : ∀ (j : Nat) t v, Tryz.f7.params[j]? = some t → args[j]? = some v → Value.okWide Tryz.prog W .any base t v)
    (hW : DataW.Whole enc Tryz.prog Tryz.f7.params.toList Rows.pageFormsSpec.vars false W args.toList ds gs before)
    (hsz0 : (DataW.weightsEach Tryz.prog (Tryz.f7.params.toList ++ Rows.pageFormsSpec.plain.varTypes Tryz.prog) (ds ++ gs)).all (· ≤ reachBytes) = true)
    (hL : laidMetH Tryz.prog Rows.pageFormsRow.laid W)
    (hsh : W.ShapedOpen Tryz.prog)
    : Calls Tryz.prog 7 args W fun e W' => ∃ v, e = .returned v ∧ Rows.pageFormsSpec.post enc Tryz.prog Tryz.f7 false true false false W args v W' := by
  have hsz : (DataW.weightsEach Tryz.prog (Tryz.f7.params.toList ++ Rows.pageFormsSpec.plain.varTypes Tryz.prog) (ds ++ gs)).all (· ≤ reachBytes) = true := hsz0
  have hval : ∀ (j : Nat) t v, Tryz.f7.params[j]? = some t → args[j]? = some v → Value.okWide Tryz.prog W .any base t v := hval0
  have hW' := hW
  obtain ⟨p, q, hA0, hV, rfl, hfz, hnd⟩ := hW
  have hA : DataW.TrodAll enc Tryz.prog W 0 (fun _ => true) true Tryz.f7.params.toList args.toList ds p := hA0
  rw [Tryz.params7] at hA hval hsz
  obtain ⟨v0, vs0, d0, ds0, p0, q0, hargs, rfl, rfl, h0, r0⟩ := trodAll_cons hA
  obtain ⟨v1, vs1, d1, ds1, p1, q1, rfl, rfl, rfl, h1, r1⟩ := trodAll_cons r0
  obtain ⟨rfl, rfl, rfl⟩ := trodAll_nil r1
  obtain rfl : args = #[v0, v1] := by cases args; simp_all
  obtain ⟨rfl, rfl⟩ := trodVars_none hV
  obtain ⟨a0, rfl, rfl, rfl, w0⟩ := open_int Tryz.underlying3 (hval 0 3 v0 rfl rfl) h0
  obtain ⟨a1, rfl, rfl, rfl, w1⟩ := open_int Tryz.underlying3 (hval 1 3 v1 rfl rfl) h1
  clear hA0 hval0 hsz0 hsz hval
  have hT : Tabs W := ⟨Tryz.laysM143.s1_3 W hsh, tabP_of_laid hL (by kernel_rfl) (by simp [Rows.pageFormsRow])⟩
  obtain ⟨k, hk⟩ := P8.pageForms_plain a0 a1 w0 w1
  refine (XP.stolelaw8_PageForms.calls k a0 a1 true W hT hk rfl).mono fun e W' ⟨he, bel0⟩ => ?_
  have bel : Below W.heap.size W W' := bel0
  subst he
  simp only [List.append_nil] at hW'
  exact ⟨_, rfl, _, _, _, [], _, [], hW', trodAll_mk1 (shut_bool Tryz.underlying4 _), (trodAll_cons_mk (shut_int Tryz.underlying3 w0) (trodAll_cons_mk (shut_int Tryz.underlying3 w1) trodAll_mk0)), rfl, bel.frame _, fun h => by cases h⟩
theorem laid_met (os : Os) : laidMetH Tryz.prog Rows.pageFormsRow.laid ((World.laidAll Tryz.prog os Rows.pageFormsRow.laid).forCall (fun _ _ => 0) ⟨#[], #[.int .i64 0, .int .i64 0], []⟩).memory := by
  rw [MakeChecks.laidMetH_plain _ _ _ (by kernel_rfl)]
  exact laidMet_laidAll _ (by kernel_rfl) (by kernel_rfl)
theorem reads (os : Os) {H : Type} (enc : TypeId × Value → H) : ∃ places, DataW.whole enc Tryz.prog ((World.laidAll Tryz.prog os Rows.pageFormsRow.laid).forCall (fun _ _ => 0) ⟨#[], #[.int .i64 0, .int .i64 0], []⟩).memory Tryz.f7.params.toList Rows.pageFormsSpec.vars false (#[.int .i64 0, .int .i64 0] : Array Value).toList 8 = some ([.lit (.int .i64 0), .lit (.int .i64 0)], [], places) :=
  ⟨[], by kernel_rfl⟩
set_option maxRecDepth 100000 in
theorem lifted (os : Os) (started : os.Started) (H : Type) (enc : TypeId × Value → H) (F : Stop.Interp) :
    ReturnsInHanded {} Tryz.checked os 7 .any ((OpenSpec.ofChange Rows.pageFormsSpec).preRow enc Tryz.prog Tryz.f7 Rows.pageFormsRow.domain false Rows.pageFormsRow.laid) (((OpenSpec.ofChange Rows.pageFormsSpec).at F).post enc Tryz.prog Tryz.f7 false true false false) := by
  obtain ⟨places, hx⟩ := reads os enc
  refine returnsInHanded_of_row (C := Tryz.checked) (s := (OpenSpec.ofChange Rows.pageFormsSpec)) own started (by kernel_rfl) Tryz.func7
    (witness_row_at (enc := enc) (C := Tryz.checked) false (World.laidAll Tryz.prog os Rows.pageFormsRow.laid) #[.int .i64 0, .int .i64 0] (World.laidAll_os _ _ _) (by kernel_rfl) (by kernel_rfl) (by kernel_rfl)
      (OpenSpec.preRow_of_cond 8 hx (by kernel_rfl) (fun k hk => by cases hk) (by kernel_rfl) (laid_met os))) ?_
  intro W base args ds gs before hval hW hcnd hcond hsz hL hsh _
  exact contract H enc W base args ds gs before hval hW hsz hL hsh
set_option maxRecDepth 100000 in
theorem c_laid : laidOutB Tryz.pinned.checked.prog = true := by kernel_rfl
set_option maxRecDepth 100000 in
theorem c_maps : mapsRowed Tryz.pinned.checked.prog = true := by kernel_rfl
set_option maxRecDepth 100000 in
theorem c_place : (Rows.pageFormsRow.inPlace == Tryz.pinned.checked.prog.inPlace 7) = true := by kernel_rfl
set_option maxRecDepth 100000 in
theorem c_unf : (Rows.pageFormsRow.unfollowed == Tryz.pinned.checked.prog.unfollowed 7) = true := by kernel_rfl
set_option maxRecDepth 100000 in
theorem c_rec : (Rows.pageFormsRow.recurses == Tryz.pinned.checked.prog.recurses 7) = true := by kernel_rfl
set_option maxRecDepth 100000 in
theorem c_named : (Rows.pageFormsRow.named == Tryz.pinned.checked.prog.varsNamed 7) = true := by kernel_rfl
set_option maxRecDepth 100000 in
theorem closed : joinedFacts Tryz.pinned.checked.prog 7 Tryz.f7 (OpenSpec.bare (OpenSpec.ofChange Rows.pageFormsSpec)) Rows.pageFormsRow = true := by
  unfold joinedFacts
  rw [c_laid, c_maps, c_place, c_unf, c_rec, c_named]
  kernel_rfl
theorem said : Rows.PageFormsSaid :=
  OpenClaim.holds_of_cond 7 Tryz.f7 rfl rfl rfl rfl rfl rfl rfl ⟨rfl, rfl, rfl, rfl, rfl⟩ rfl rfl rfl rfl rfl (by kernel_rfl) Tryz.func7 closed
    (of_decide_eq_true (by kernel_rfl)) (by unfold Func.isWrapper; first | (rw [if_pos (by decide +kernel)]; kernel_rfl) | (rw [if_neg (by decide +kernel)]; exact ⟨rfl, rfl⟩))
    (fun os started H enc _ F => by rw [OpenClaim.pre_eq_preRow]; exact lifted os started H enc F)
theorem plain (f : FuncId) (fn : Func) (hf : Tryz.pinned.checked.prog.funcNamed "stole/stolelaw8.PageForms" = some f) (hfn : Tryz.pinned.checked.prog.funcs[f]? = some fn) :
    true = Tryz.pinned.checked.prog.looks [] ∧ ∀ (j : Nat) t, fn.params[j]? = some t → Tryz.pinned.checked.prog.wantsStandIn t = false := by
  obtain rfl : f = 7 := Option.some.inj ((show Tryz.prog.funcNamed "stole/stolelaw8.PageForms" = some 7 by kernel_rfl).symm.trans hf) |>.symm
  obtain rfl : fn = Tryz.f7 := (Option.some.inj (Tryz.func7.symm.trans hfn)).symm
  refine ⟨by kernel_rfl, fun j t ht => ?_⟩
  rw [Tryz.params7] at ht
  have hm := Array.mem_of_getElem? ht
  have hall : (#[3, 3] : Array TypeId).all (fun t => Tryz.prog.wantsStandIn t == false) = true := by kernel_rfl
  rw [Array.all_eq_true'] at hall
  exact eq_of_beq (hall t hm)
theorem proved : Rows.PageFormsCardSaid :=
  Claim7.holds_tied_plain_at .later [] _ _ _ _ said (fun _ h => by cases h) (by kernel_rfl) (fun _ h => by cases h) pageForms_row_tie rfl ⟨rfl, rfl⟩ (by kernel_rfl) rfl plain (by kernel_rfl)
end Go.Proofs.YtfmcdlbbbmeolaaGreatDoor.RowPageForms
namespace Go.Proofs.YtfmcdlbbbmeolaaGreatDoor
theorem pageForms_holds : Rows.PageFormsCardSaid := RowPageForms.proved
#print axioms pageForms_holds
end Go.Proofs.YtfmcdlbbbmeolaaGreatDoor
end
