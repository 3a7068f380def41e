/- Laid by xprint.py, a program of this session over the kit's print: for each Go function one Lean function of the same answers, and the walk that shows it. -/
import Derived.Test.YtfncppekjgbedaaDoorXU0
import Derived.Test.YtfncppekjgbedaaDoorXU1
namespace Go.Proofs.YtfncppekjgbedaaDoor.XU
open Go.RowKit Go.Proofs.YtfncppekjgbedaaDoor.Ext Go.Proofs.YtfncppekjgbedaaDoor.Utf Go.Proofs.YtfncppekjgbedaaDoorW.PrintWords Go.Proofs.YtfncppekjgbedaaDoorW.PrintLast Go.Proofs.YtfncppekjgbedaaDoorW.PrintMore
attribute [local go_sem] max2_int min2_int max_two min_two max_three min_three max_four min_four   -- for this text's walks alone
set_option linter.unusedVariables false
set_option linter.unusedSimpArgs false

/-! ### stolelaw9_UrlSchemes: function 5 -/
mutual
def stolelaw9_UrlSchemes.l0 : Nat → Int → ByteArray → ByteArray → ByteArray → Int → Option (Bool)
 | 0, _, _, _, _, _ => none
 | k + 1, x1, x2, x8, x9, x10 => if x10 < (Go.bits .and .i64 x1 7) then (if 0 ≤ (IntKind.u64.wrap (wrap64 (3 + x10))) then ((some (([(1 + ((31 * ((Go.bits .and .i64 (shr .i64 x1 (IntKind.u64.wrap (wrap64 (3 + x10)))) 1) % 256)) % 256)) % 256] : List Int) : List Int)).bind fun y169 => (if x9.size + (strOfNums y169).size ≤ 9223372036854775807 then (stolelaw9_UrlSchemes.l0 k x1 x2 x8 (x9 ++ (strOfNums y169)) (wrap64 (x10 + 1))) else (none))) else (none)) else (stolelaw9_UrlSchemes.l1 k x1 x2 x8 x9 0)
def stolelaw9_UrlSchemes.l1 : Nat → Int → ByteArray → ByteArray → ByteArray → Int → Option (Bool)
 | 0, _, _, _, _, _ => none
 | k + 1, x1, x2, x8, x9, x11 => if x11 < (x8.size : Int) then (if 0 ≤ x11 then (if 0 ≤ (IntKind.u64.wrap (wrap64 (x11 + 8))) then (if (Go.bits .and .i64 (shr .i64 x1 (IntKind.u64.wrap (wrap64 (x11 + 8)))) 1) = 1 then ((stoleref1_Letter.f (bt x8 x11)).bind fun t180 => (stolelaw9_UrlSchemes.j2 k x1 x2 x8 x9 x11 (bt x8 x11) t180)) else (stolelaw9_UrlSchemes.j2 k x1 x2 x8 x9 x11 (bt x8 x11) false)) else (none)) else (none)) else (if x9.size + 1 ≤ 9223372036854775807 then (if x9.size + 1 + x2.size ≤ 9223372036854775807 then ((url_Scheme.f ((x9 ++ (⟨#[58]⟩ : ByteArray)) ++ x2)).bind fun bt172 => (if x9.size + 2 ≤ 9223372036854775807 then (if x9.size + 2 + x2.size ≤ 9223372036854775807 then ((url_Scheme.f ((x9 ++ (⟨#[47, 58]⟩ : ByteArray)) ++ x2)).bind fun bt174 => (if x8.toList = ([104, 116, 116, 112] : List UInt8) then (if bt172.1.toList = x8.toList then (if bt172.2 = true then (if bt174.2 = true then (some false) else ((url_Start.f ((x9 ++ (⟨#[58]⟩ : ByteArray)) ++ x2)).bind fun t176 => (some ((t176.toList == ([35, 90, 103, 111, 116, 109, 112, 108, 90] : List UInt8)) == (!true))))) else (some false)) else (some false)) else (if x8.toList = ([104, 116, 116, 112, 115] : List UInt8) then (if bt172.1.toList = x8.toList then (if bt172.2 = true then (if bt174.2 = true then (some false) else ((url_Start.f ((x9 ++ (⟨#[58]⟩ : ByteArray)) ++ x2)).bind fun t177 => (some ((t177.toList == ([35, 90, 103, 111, 116, 109, 112, 108, 90] : List UInt8)) == (!true))))) else (some false)) else (some false)) else (if x8.toList = ([109, 97, 105, 108, 116, 111] : List UInt8) then (if bt172.1.toList = x8.toList then (if bt172.2 = true then (if bt174.2 = true then (some false) else ((url_Start.f ((x9 ++ (⟨#[58]⟩ : ByteArray)) ++ x2)).bind fun t178 => (some ((t178.toList == ([35, 90, 103, 111, 116, 109, 112, 108, 90] : List UInt8)) == (!true))))) else (some false)) else (some false)) else (if bt172.1.toList = x8.toList then (if bt172.2 = true then (if bt174.2 = true then (some false) else ((url_Start.f ((x9 ++ (⟨#[58]⟩ : ByteArray)) ++ x2)).bind fun t179 => (some ((t179.toList == ([35, 90, 103, 111, 116, 109, 112, 108, 90] : List UInt8)) == (!(x8.toList == ([116, 101, 108] : List UInt8))))))) else (some false)) else (some false)))))) else (none)) else (none))) else (none)) else (none))
def stolelaw9_UrlSchemes.j2 : Nat → Int → ByteArray → ByteArray → ByteArray → Int → Int → Bool → Option (Bool)
 | 0, _, _, _, _, _, _, _ => none
 | k + 1, x1, x2, x8, x9, x11, x12, x66 => if x66 = true then ((some (([(x12 - 32) % 256] : List Int) : List Int)).bind fun y181 => (if x9.size + (strOfNums y181).size ≤ 9223372036854775807 then (if 0 ≤ (IntKind.u64.wrap (wrap64 (x11 + 20))) then (if (Go.bits .and .i64 (shr .i64 x1 (IntKind.u64.wrap (wrap64 (x11 + 20)))) 1) = 1 then ((some (([(⟨#[9]⟩ : ByteArray), (⟨#[10]⟩ : ByteArray), (⟨#[13]⟩ : ByteArray)] : List ByteArray) : List ByteArray)).bind fun y184 => (if 0 ≤ (Int.tmod x11 3) then (if (Int.tmod x11 3) < (y184.length : Int) then (if x9.size + (strOfNums y181).size + (rdOf ByteArray.empty y184 (Int.tmod x11 3)).size ≤ 9223372036854775807 then (stolelaw9_UrlSchemes.l1 k x1 x2 x8 ((x9 ++ (strOfNums y181)) ++ (rdOf ByteArray.empty y184 (Int.tmod x11 3))) (wrap64 (x11 + 1))) else (none)) else (none)) else (none))) else (stolelaw9_UrlSchemes.l1 k x1 x2 x8 (x9 ++ (strOfNums y181)) (wrap64 (x11 + 1)))) else (none)) else (none))) else ((some (([x12] : List Int) : List Int)).bind fun y188 => (if x9.size + (strOfNums y188).size ≤ 9223372036854775807 then (if 0 ≤ (IntKind.u64.wrap (wrap64 (x11 + 20))) then (if (Go.bits .and .i64 (shr .i64 x1 (IntKind.u64.wrap (wrap64 (x11 + 20)))) 1) = 1 then ((some (([(⟨#[9]⟩ : ByteArray), (⟨#[10]⟩ : ByteArray), (⟨#[13]⟩ : ByteArray)] : List ByteArray) : List ByteArray)).bind fun y191 => (if 0 ≤ (Int.tmod x11 3) then (if (Int.tmod x11 3) < (y191.length : Int) then (if x9.size + (strOfNums y188).size + (rdOf ByteArray.empty y191 (Int.tmod x11 3)).size ≤ 9223372036854775807 then (stolelaw9_UrlSchemes.l1 k x1 x2 x8 ((x9 ++ (strOfNums y188)) ++ (rdOf ByteArray.empty y191 (Int.tmod x11 3))) (wrap64 (x11 + 1))) else (none)) else (none)) else (none))) else (stolelaw9_UrlSchemes.l1 k x1 x2 x8 (x9 ++ (strOfNums y188)) (wrap64 (x11 + 1)))) else (none)) else (none)))
end
def stolelaw9_UrlSchemes.f (k : Nat) (a0 : Int) (a1 : Int) (a2 : ByteArray) : Option (Bool) := (stolelaw9_awake.f).bind fun t164 => (if t164 = true then ((some (([(⟨#[104, 116, 116, 112]⟩ : ByteArray), (⟨#[104, 116, 116, 112, 115]⟩ : ByteArray), (⟨#[109, 97, 105, 108, 116, 111]⟩ : ByteArray), (⟨#[116, 101, 108]⟩ : ByteArray), (⟨#[106, 97, 118, 97, 115, 99, 114, 105, 112, 116]⟩ : ByteArray), (⟨#[100, 97, 116, 97]⟩ : ByteArray), (⟨#[97]⟩ : ByteArray), (⟨#[120, 45, 121, 46, 122, 43, 49]⟩ : ByteArray)] : List ByteArray) : List ByteArray)).bind fun y165 => (if 0 ≤ (wrap64 (Int.tmod (IntKind.u64.wrap (a0)) 8)) then (if (wrap64 (Int.tmod (IntKind.u64.wrap (a0)) 8)) < (y165.length : Int) then (stolelaw9_UrlSchemes.l0 k a1 a2 (rdOf ByteArray.empty y165 (wrap64 (Int.tmod (IntKind.u64.wrap (a0)) 8))) (⟨#[]⟩ : ByteArray) 0) else (none)) else (none))) else (some false))
theorem stolelaw9_UrlSchemes.mono_l : ∀ k, (∀ y0 y1 y2 y3 y4, LeO (stolelaw9_UrlSchemes.l0 k y0 y1 y2 y3 y4) (stolelaw9_UrlSchemes.l0 (k + 1) y0 y1 y2 y3 y4)) ∧ (∀ y0 y1 y2 y3 y4, LeO (stolelaw9_UrlSchemes.l1 k y0 y1 y2 y3 y4) (stolelaw9_UrlSchemes.l1 (k + 1) y0 y1 y2 y3 y4)) ∧ (∀ y0 y1 y2 y3 y4 y5 y6, LeO (stolelaw9_UrlSchemes.j2 k y0 y1 y2 y3 y4 y5 y6) (stolelaw9_UrlSchemes.j2 (k + 1) y0 y1 y2 y3 y4 y5 y6))
 | 0 => ⟨fun _ _ _ _ _ r h => by simp [stolelaw9_UrlSchemes.l0] at h, fun _ _ _ _ _ r h => by simp [stolelaw9_UrlSchemes.l1] at h, fun _ _ _ _ _ _ _ r h => by simp [stolelaw9_UrlSchemes.j2] at h⟩
 | k + 1 => by
  obtain ⟨ih0, ih1, ih2⟩ := stolelaw9_UrlSchemes.mono_l k
  refine ⟨?_, ?_, ?_⟩
  ·intro y0 y1 y2 y3 y4
   unfold stolelaw9_UrlSchemes.l0
   repeat' first
   | (with_reducible exact ih0 _ _ _ _ _)
   | (with_reducible exact ih1 _ _ _ _ _)
   | (with_reducible exact ih2 _ _ _ _ _ _ _)
   | (with_reducible exact LeO.refl _)
   | (with_reducible exact LeO.none _)
   | (with_reducible refine LeO.ite ?_ ?_)
   | (with_reducible refine LeO.bind ?_ (fun _ => ?_))
   | exact ih0 _ _ _ _ _
   | exact ih1 _ _ _ _ _
   | exact ih2 _ _ _ _ _ _ _
   | exact LeO.none _
   | refine LeO.ite ?_ ?_
   | refine LeO.bind ?_ (fun _ => ?_)
  ·intro y0 y1 y2 y3 y4
   unfold stolelaw9_UrlSchemes.l1
   repeat' first
   | (with_reducible exact ih0 _ _ _ _ _)
   | (with_reducible exact ih1 _ _ _ _ _)
   | (with_reducible exact ih2 _ _ _ _ _ _ _)
   | (with_reducible exact LeO.refl _)
   | (with_reducible exact LeO.none _)
   | (with_reducible refine LeO.ite ?_ ?_)
   | (with_reducible refine LeO.bind ?_ (fun _ => ?_))
   | exact ih0 _ _ _ _ _
   | exact ih1 _ _ _ _ _
   | exact ih2 _ _ _ _ _ _ _
   | exact LeO.none _
   | refine LeO.ite ?_ ?_
   | refine LeO.bind ?_ (fun _ => ?_)
  ·intro y0 y1 y2 y3 y4 y5 y6
   unfold stolelaw9_UrlSchemes.j2
   repeat' first
   | (with_reducible exact ih0 _ _ _ _ _)
   | (with_reducible exact ih1 _ _ _ _ _)
   | (with_reducible exact ih2 _ _ _ _ _ _ _)
   | (with_reducible exact LeO.refl _)
   | (with_reducible exact LeO.none _)
   | (with_reducible refine LeO.ite ?_ ?_)
   | (with_reducible refine LeO.bind ?_ (fun _ => ?_))
   | exact ih0 _ _ _ _ _
   | exact ih1 _ _ _ _ _
   | exact ih2 _ _ _ _ _ _ _
   | exact LeO.none _
   | refine LeO.ite ?_ ?_
   | refine LeO.bind ?_ (fun _ => ?_)
theorem stolelaw9_UrlSchemes.mono : ∀ a0 a1 a2 k, LeO (stolelaw9_UrlSchemes.f k a0 a1 a2) (stolelaw9_UrlSchemes.f (k + 1) a0 a1 a2) := by
 intro a0 a1 a2 k
 obtain ⟨ih0, ih1, ih2⟩ := stolelaw9_UrlSchemes.mono_l k
 unfold stolelaw9_UrlSchemes.f
 repeat' first
   | (with_reducible exact ih0 _ _ _ _ _)
   | (with_reducible exact ih1 _ _ _ _ _)
   | (with_reducible exact ih2 _ _ _ _ _ _ _)
   | (with_reducible exact LeO.refl _)
   | (with_reducible exact LeO.none _)
   | (with_reducible refine LeO.ite ?_ ?_)
   | (with_reducible refine LeO.bind ?_ (fun _ => ?_))
   | exact ih0 _ _ _ _ _
   | exact ih1 _ _ _ _ _
   | exact ih2 _ _ _ _ _ _ _
   | exact LeO.none _
   | refine LeO.ite ?_ ?_
   | refine LeO.bind ?_ (fun _ => ?_)
set_option maxHeartbeats 8000000 in
set_option maxRecDepth 100000 in
theorem stolelaw9_UrlSchemes.calls (k : Nat) (a0 : Int) (a1 : Int) (a2 : ByteArray) (r : Bool) (w : World) (hT : Tabs w) (h : stolelaw9_UrlSchemes.f k a0 a1 a2 = some r) :
  Calls Tryd.prog 5 #[.int .i64 a0, .int .i64 a1, .string a2] w fun e w' => e = .returned (.bool r) ∧ Below w.heap.size w w' := by
 have HT := Aside0.mk hT
 clear hT
 have HB := Aside0.mk (Below.refl w.heap.size w)
 have H : ((stolelaw9_awake.f).bind fun t164 => (if t164 = true then ((some (([(⟨#[104, 116, 116, 112]⟩ : ByteArray), (⟨#[104, 116, 116, 112, 115]⟩ : ByteArray), (⟨#[109, 97, 105, 108, 116, 111]⟩ : ByteArray), (⟨#[116, 101, 108]⟩ : ByteArray), (⟨#[106, 97, 118, 97, 115, 99, 114, 105, 112, 116]⟩ : ByteArray), (⟨#[100, 97, 116, 97]⟩ : ByteArray), (⟨#[97]⟩ : ByteArray), (⟨#[120, 45, 121, 46, 122, 43, 49]⟩ : ByteArray)] : List ByteArray) : List ByteArray)).bind fun y165 => (if 0 ≤ (wrap64 (Int.tmod (IntKind.u64.wrap (a0)) 8)) then (if (wrap64 (Int.tmod (IntKind.u64.wrap (a0)) 8)) < (y165.length : Int) then (stolelaw9_UrlSchemes.l0 k a1 a2 (rdOf ByteArray.empty y165 (wrap64 (Int.tmod (IntKind.u64.wrap (a0)) 8))) (⟨#[]⟩ : ByteArray) 0) else (none)) else (none))) else (some false))) = some r := h
 clear h
 replace H := Option.bind_eq_some_iff.mp H
 obtain ⟨t164, A40, H⟩ := H
 replace H : (if t164 = true then ((some (([(⟨#[104, 116, 116, 112]⟩ : ByteArray), (⟨#[104, 116, 116, 112, 115]⟩ : ByteArray), (⟨#[109, 97, 105, 108, 116, 111]⟩ : ByteArray), (⟨#[116, 101, 108]⟩ : ByteArray), (⟨#[106, 97, 118, 97, 115, 99, 114, 105, 112, 116]⟩ : ByteArray), (⟨#[100, 97, 116, 97]⟩ : ByteArray), (⟨#[97]⟩ : ByteArray), (⟨#[120, 45, 121, 46, 122, 43, 49]⟩ : ByteArray)] : List ByteArray) : List ByteArray)).bind fun y165 => (if 0 ≤ (wrap64 (Int.tmod (IntKind.u64.wrap (a0)) 8)) then (if (wrap64 (Int.tmod (IntKind.u64.wrap (a0)) 8)) < (y165.length : Int) then (stolelaw9_UrlSchemes.l0 k a1 a2 (rdOf ByteArray.empty y165 (wrap64 (Int.tmod (IntKind.u64.wrap (a0)) 8))) (⟨#[]⟩ : ByteArray) 0) else (none)) else (none))) else (some false)) = some r := H
 have A4 := Aside0.mk A40
 clear A40
 by_cases c5 : t164 = true
 ·subst c5
  have H1 : ((some (([(⟨#[104, 116, 116, 112]⟩ : ByteArray), (⟨#[104, 116, 116, 112, 115]⟩ : ByteArray), (⟨#[109, 97, 105, 108, 116, 111]⟩ : ByteArray), (⟨#[116, 101, 108]⟩ : ByteArray), (⟨#[106, 97, 118, 97, 115, 99, 114, 105, 112, 116]⟩ : ByteArray), (⟨#[100, 97, 116, 97]⟩ : ByteArray), (⟨#[97]⟩ : ByteArray), (⟨#[120, 45, 121, 46, 122, 43, 49]⟩ : ByteArray)] : List ByteArray) : List ByteArray)).bind fun y165 => (if 0 ≤ (wrap64 (Int.tmod (IntKind.u64.wrap (a0)) 8)) then (if (wrap64 (Int.tmod (IntKind.u64.wrap (a0)) 8)) < (y165.length : Int) then (stolelaw9_UrlSchemes.l0 k a1 a2 (rdOf ByteArray.empty y165 (wrap64 (Int.tmod (IntKind.u64.wrap (a0)) 8))) (⟨#[]⟩ : ByteArray) 0) else (none)) else (none))) = some r := by rw [if_pos rfl] at H; exact H
  clear H
  have H := H1
  clear H1
  obtain ⟨y165, hy165⟩ : ∃ y_ : List ByteArray, y_ = (([(⟨#[104, 116, 116, 112]⟩ : ByteArray), (⟨#[104, 116, 116, 112, 115]⟩ : ByteArray), (⟨#[109, 97, 105, 108, 116, 111]⟩ : ByteArray), (⟨#[116, 101, 108]⟩ : ByteArray), (⟨#[106, 97, 118, 97, 115, 99, 114, 105, 112, 116]⟩ : ByteArray), (⟨#[100, 97, 116, 97]⟩ : ByteArray), (⟨#[97]⟩ : ByteArray), (⟨#[120, 45, 121, 46, 122, 43, 49]⟩ : ByteArray)] : List ByteArray)) := ⟨_, rfl⟩
  replace H : (if 0 ≤ (wrap64 (Int.tmod (IntKind.u64.wrap (a0)) 8)) then (if (wrap64 (Int.tmod (IntKind.u64.wrap (a0)) 8)) < (y165.length : Int) then (stolelaw9_UrlSchemes.l0 k a1 a2 (rdOf ByteArray.empty y165 (wrap64 (Int.tmod (IntKind.u64.wrap (a0)) 8))) (⟨#[]⟩ : ByteArray) 0) else (none)) else (none)) = some r := by first | (rw [hy165]; with_reducible exact H) | (have H2_ := (Option.bind_some _ _).symm.trans H; rw [hy165]; with_reducible exact H2_) | (have H2_ := (Option.bind_some _ _).symm.trans H; with_reducible exact H2_) | with_reducible exact H | (rw [hy165]; exact H) | exact H
  have Ny165 := Aside0.mk hy165
  clear hy165
  obtain ⟨ji6, hji6⟩ : ∃ j_ : Int, (wrap64 (Int.tmod (IntKind.u64.wrap (a0)) 8)) = j_ := ⟨_, rfl⟩
  replace H : (if 0 ≤ (ji6) then (if (ji6) < (y165.length : Int) then (stolelaw9_UrlSchemes.l0 k a1 a2 (rdOf ByteArray.empty y165 (ji6)) (⟨#[]⟩ : ByteArray) 0) else (none)) else (none)) = some r := by first | (rw [hji6] at H; exact H) | (simp only [hji6] at H ⊢; exact H)
  (try rw [hji6] at A4)
  have hji6w : (IntKind.i64.wrap (Int.tmod (IntKind.u64.wrap (a0)) 8)) = ji6 := (i64_w _).trans hji6
  by_cases c7 : 0 ≤ (ji6)
  ·rw [if_pos c7] at H
   have c7b0 : decide (0 ≤ (ji6)) = true := decide_eq_true c7
   clear c7
   by_cases c8 : (ji6) < (y165.length : Int)
   ·rw [if_pos c8] at H
    have c8b0 : decide ((ji6) < (y165.length : Int)) = true := decide_eq_true c8
    clear c8
    have H' := Aside0.mk H
    clear H
    go_enter Tryd.func5, Tryd.ntmps5
    go_wp2_with (first | ((with_reducible refine gate_callee (f := 8) rfl ?_); refine goesL_ (some 18) rfl rfl Tryd.func8 (by kernel_rfl) rfl #[] rfl (by (try simp only [List.map_toArray, List.map_cons, List.map_nil]); first | done | rfl | (simp only [List.length_drop, List.length_take]; rfl)) ?_; (with_reducible refine (stolelaw9_awake.calls  true _ (tabs_below HT.out (by repeat (first | (with_reducible first | exact HB.out | apply below_alloc | apply pw_below_drewN | apply below_drew1) | exact HB.out))) A4.out).mono ?_); rintro e w9 ⟨rfl, hb⟩; refine ⟨_, rfl, ?_⟩; have n0_ := Aside0.mk (below_step (by repeat (first | (with_reducible first | exact HB.out | apply below_alloc | apply pw_below_drewN | apply below_drew1) | exact HB.out)) hb); clear HB; have HB := n0_; clear n0_; (try clear hb); (try clear hb2); (try clear hk); (try clear hi)) | ((with_reducible refine gate_dst (N := 20) rfl ?_); refine Kd.R_lit Kd.string _ 9 ?hg (N := 20) ?hd (xs := ([(⟨#[104, 116, 116, 112]⟩ : ByteArray), (⟨#[104, 116, 116, 112, 115]⟩ : ByteArray), (⟨#[109, 97, 105, 108, 116, 111]⟩ : ByteArray), (⟨#[116, 101, 108]⟩ : ByteArray), (⟨#[106, 97, 118, 97, 115, 99, 114, 105, 112, 116]⟩ : ByteArray), (⟨#[100, 97, 116, 97]⟩ : ByteArray), (⟨#[97]⟩ : ByteArray), (⟨#[120, 45, 121, 46, 122, 43, 49]⟩ : ByteArray)] : List ByteArray)) (inner := [.string (⟨#[104, 116, 116, 112]⟩ : ByteArray), .string (⟨#[104, 116, 116, 112, 115]⟩ : ByteArray), .string (⟨#[109, 97, 105, 108, 116, 111]⟩ : ByteArray), .string (⟨#[116, 101, 108]⟩ : ByteArray), .string (⟨#[106, 97, 118, 97, 115, 99, 114, 105, 112, 116]⟩ : ByteArray), .string (⟨#[100, 97, 116, 97]⟩ : ByteArray), .string (⟨#[97]⟩ : ByteArray), .string (⟨#[120, 45, 121, 46, 122, 43, 49]⟩ : ByteArray)]) (ok := fun _ => True) (okp := fun _ => True) ?hr ?hp (fun _ hk => hk) trivial (Below.refl _ _) (Nat.le_refl _) (by simp) ?_; (case hd => rfl); (case hg => rfl); (case hr => first | (go_simp; done) | (go_simp; rfl)); (case hp => exact (Reps.one (show Kd.M Kd.string _ _ _ (⟨#[104, 116, 116, 112]⟩ : ByteArray) [.string (⟨#[104, 116, 116, 112]⟩ : ByteArray)] from rfl) (Reps.one (show Kd.M Kd.string _ _ _ (⟨#[104, 116, 116, 112, 115]⟩ : ByteArray) [.string (⟨#[104, 116, 116, 112, 115]⟩ : ByteArray)] from rfl) (Reps.one (show Kd.M Kd.string _ _ _ (⟨#[109, 97, 105, 108, 116, 111]⟩ : ByteArray) [.string (⟨#[109, 97, 105, 108, 116, 111]⟩ : ByteArray)] from rfl) (Reps.one (show Kd.M Kd.string _ _ _ (⟨#[116, 101, 108]⟩ : ByteArray) [.string (⟨#[116, 101, 108]⟩ : ByteArray)] from rfl) (Reps.one (show Kd.M Kd.string _ _ _ (⟨#[106, 97, 118, 97, 115, 99, 114, 105, 112, 116]⟩ : ByteArray) [.string (⟨#[106, 97, 118, 97, 115, 99, 114, 105, 112, 116]⟩ : ByteArray)] from rfl) (Reps.one (show Kd.M Kd.string _ _ _ (⟨#[100, 97, 116, 97]⟩ : ByteArray) [.string (⟨#[100, 97, 116, 97]⟩ : ByteArray)] from rfl) (Reps.one (show Kd.M Kd.string _ _ _ (⟨#[97]⟩ : ByteArray) [.string (⟨#[97]⟩ : ByteArray)] from rfl) (Reps.one (show Kd.M Kd.string _ _ _ (⟨#[120, 45, 121, 46, 122, 43, 49]⟩ : ByteArray) [.string (⟨#[120, 45, 121, 46, 122, 43, 49]⟩ : ByteArray)] from rfl) (Reps.none _ _)))))))))); intro v166 w10 ho11 hb hg_ hnew_; clear hg_ hnew_; (first | rw [← Ny165.out] at ho11 | (simp only [Int.reduceToNat] at ho11; rw [← Ny165.out] at ho11)); have n0_ := Aside0.mk (Kd.R_lower ho11 (below_size (by repeat (first | (with_reducible first | exact HB.out | apply below_alloc | apply pw_below_drewN | apply below_drew1) | exact HB.out)))); have n1_ := Aside0.mk (below_step (by repeat (first | (with_reducible first | exact HB.out | apply below_alloc | apply pw_below_drewN | apply below_drew1) | exact HB.out)) hb); clear HB; have HO167 := n0_; have HB := n1_; clear n0_ n1_; clear hb ho11; obtain ⟨Ao12, co12, eo12⟩ := Kd.R_slice HO167.out; subst eo12; have p168 : 0 ≤ ((ji6) : Int) := of_decide_eq_true (by first | (with_reducible assumption) | assumption); have q168 : (ji6) < (y165.length : Int) := of_decide_eq_true (by first | (with_reducible assumption) | assumption); obtain ⟨ad168, e168, hx168_0⟩ := Kd.at_string (Kd.R_reads' HO167.out).2.2 (ji6) p168 q168; cases e168; replace p168 := eq_true p168; replace q168 := eq_true q168))
    go_loopg [9, 10] k (fun kq v9 v10 w' => ∃ (x9_1 : ByteArray) (x10_1 : Int), v9 = .string x9_1 ∧ v10 = .int .i64 x10_1 ∧ Aside0 (stolelaw9_UrlSchemes.l0 kq a1 a2 (rdOf ByteArray.empty y165 (ji6)) x9_1 x10_1 = some r) ∧ Aside0 (kq ≤ k) ∧ Aside0 (Below w.heap.size w w'))
    case atStart => exact ⟨((⟨#[]⟩ : ByteArray)), (0), (by first | rfl | (simp; done) | (simp [*]; done)), (by first | rfl | (simp; done) | (simp [*]; done)), H', ⟨Nat.le_refl _⟩, ⟨by repeat (first | (with_reducible first | exact HB.out | apply below_alloc | apply pw_below_drewN | apply below_drew1) | exact HB.out)⟩⟩
    case round =>
     clear H'
     try clear p1
     try clear q1
     try clear hx1
     try clear p2
     try clear c5
     try clear p6
     try clear c7
     try clear c7b0
     try clear c8
     try clear c8b0
     try clear hx168_0
     try clear p168
     try clear q168
     obtain ⟨x9_1, x10_1, rfl, rfl, HA, HK1, HB⟩ := hrel
     cases gk with
     | zero => exact absurd HA.out (by simp [stolelaw9_UrlSchemes.l0])
     | succ k1 =>
      have H := HA.out
      clear HA
      simp only [stolelaw9_UrlSchemes.l0] at H
      by_cases c13 : x10_1 < (Go.bits .and .i64 a1 7)
      ·rw [if_pos c13] at H
       have c13b0 : decide (x10_1 < (Go.bits .and .i64 a1 7)) = true := decide_eq_true c13
       clear c13
       obtain ⟨ji14, hji14⟩ : ∃ j_ : Int, (IntKind.u64.wrap (wrap64 (3 + x10_1))) = j_ := ⟨_, rfl⟩
       replace H : (if 0 ≤ (ji14) then ((some (([(1 + ((31 * ((Go.bits .and .i64 (shr .i64 a1 (ji14)) 1) % 256)) % 256)) % 256] : List Int) : List Int)).bind fun y169 => (if x9_1.size + (strOfNums y169).size ≤ 9223372036854775807 then (stolelaw9_UrlSchemes.l0 k1 a1 a2 (rdOf ByteArray.empty y165 (ji6)) (x9_1 ++ (strOfNums y169)) (wrap64 (x10_1 + 1))) else (none))) else (none)) = some r := by first | (rw [hji14] at H; exact H) | (simp only [hji14] at H ⊢; exact H)
       by_cases c15 : 0 ≤ (ji14)
       ·rw [if_pos c15] at H
        have c15b0 := eq_true c15
        have c15b1 : decide (0 ≤ (ji14)) = true := decide_eq_true c15
        clear c15
        obtain ⟨ji16, hji16⟩ : ∃ j_ : Int, (shr .i64 a1 (ji14)) = j_ := ⟨_, rfl⟩
        replace H : ((some (([(1 + ((31 * ((Go.bits .and .i64 (ji16) 1) % 256)) % 256)) % 256] : List Int) : List Int)).bind fun y169 => (if x9_1.size + (strOfNums y169).size ≤ 9223372036854775807 then (stolelaw9_UrlSchemes.l0 k1 a1 a2 (rdOf ByteArray.empty y165 (ji6)) (x9_1 ++ (strOfNums y169)) (wrap64 (x10_1 + 1))) else (none))) = some r := by first | (rw [hji16] at H; exact H) | (simp only [hji16] at H ⊢; exact H)
        have hji16_ : (a1 / 2 ^ min (ji14).toNat 64) = ji16 := hji16
        have hji16z : (ji14) ≤ 64 → (a1 / 2 ^ (ji14).toNat) = ji16 := shr_small hji16
        obtain ⟨y169, hy169⟩ : ∃ y_ : List Int, y_ = (([(1 + ((31 * ((Go.bits .and .i64 (ji16) 1) % 256)) % 256)) % 256] : List Int)) := ⟨_, rfl⟩
        replace H : (if x9_1.size + (strOfNums y169).size ≤ 9223372036854775807 then (stolelaw9_UrlSchemes.l0 k1 a1 a2 (rdOf ByteArray.empty y165 (ji6)) (x9_1 ++ (strOfNums y169)) (wrap64 (x10_1 + 1))) else (none)) = some r := by first | (rw [hy169]; with_reducible exact H) | (have H2_ := (Option.bind_some _ _).symm.trans H; rw [hy169]; with_reducible exact H2_) | (have H2_ := (Option.bind_some _ _).symm.trans H; with_reducible exact H2_) | with_reducible exact H | (rw [hy169]; exact H) | exact H
        have Ny169 := Aside0.mk hy169
        clear hy169
        by_cases c17 : x9_1.size + (strOfNums y169).size ≤ 9223372036854775807
        ·rw [if_pos c17] at H
         have c17b0 := eq_true c17
         have c17b1 : decide (x9_1.size + (strOfNums y169).size ≤ 9223372036854775807) = true := decide_eq_true c17
         try have c17b2 : (9223372036854775807 < x9_1.size + (strOfNums y169).size) = False := eq_false (Nat.not_lt.2 c17)
         have H' := Aside0.mk H
         clear H
         go_wp2_with (first | ((with_reducible refine gate_dst (N := 44) rfl ?_); refine Kd.R_lit (Kd.int .u8) _ 5 ?hg (N := 44) ?hd (xs := ([(1 + ((31 * ((Go.bits .and .i64 (ji16) 1) % 256)) % 256)) % 256] : List Int)) (inner := [.int .u8 ((1 + ((31 * ((Go.bits .and .i64 (ji16) 1) % 256)) % 256)) % 256)]) (ok := fun _ => True) (okp := fun _ => True) ?hr ?hp (fun _ hk => hk) trivial (Below.refl _ _) (Nat.le_refl _) (by simp) ?_; (case hd => rfl); (case hg => rfl); (case hr => first | (go_simp; done) | (go_simp; rfl)); (case hp => exact (Reps.one (show Kd.M (Kd.int .u8) _ _ _ ((1 + ((31 * ((Go.bits .and .i64 (ji16) 1) % 256)) % 256)) % 256) [.int .u8 ((1 + ((31 * ((Go.bits .and .i64 (ji16) 1) % 256)) % 256)) % 256)] from rfl) (Reps.none _ _))); intro v170 w18 ho19 hb hg_ hnew_; clear hg_ hnew_; (first | rw [← Ny169.out] at ho19 | (simp only [Int.reduceToNat] at ho19; rw [← Ny169.out] at ho19)); have n0_ := Aside0.mk (Kd.R_lower ho19 (below_size (by repeat (first | (with_reducible first | exact HB.out | apply below_alloc | apply pw_below_drewN | apply below_drew1) | exact HB.out)))); have n1_ := Aside0.mk (below_step (by repeat (first | (with_reducible first | exact HB.out | apply below_alloc | apply pw_below_drewN | apply below_drew1) | exact HB.out)) hb); clear HB; have HO171 := n0_; have HB := n1_; clear n0_ n1_; clear hb ho19; have hcv20 := own_string (P := Tryd.prog) Tryd.underlying27 Tryd.underlying5 Tryd.underlying9 (Kd.own_of_R HO171.out)))
         go_roundg k1
         case measure => have := HK1.out; omega
         case rel => exact ⟨(x9_1 ++ (strOfNums y169)), (wrap64 (x10_1 + 1)), (by first | rfl | (simp; done) | (simp [*]; done)), (by first | rfl | (simp; done) | (simp [*]; done)), H', ⟨by have := HK1.out; omega⟩, ⟨by repeat (first | (with_reducible first | exact HB.out | apply below_alloc | apply pw_below_drewN | apply below_drew1) | exact HB.out)⟩⟩
        ·rw [if_neg c17] at H
         exact absurd H (by simp)
       ·rw [if_neg c15] at H
        exact absurd H (by simp)
      ·rw [if_neg c13] at H
       have c13b0 : decide (x10_1 < (Go.bits .and .i64 a1 7)) = false := decide_eq_false c13
       clear c13
       have H' := Aside0.mk H
       clear H
       go_wp2
       go_loopg [9, 11] k1 (fun kq v9 v11 w' => ∃ (x9_2 : ByteArray) (x11_2 : Int), v9 = .string x9_2 ∧ v11 = .int .i64 x11_2 ∧ Aside0 (stolelaw9_UrlSchemes.l1 kq a1 a2 (rdOf ByteArray.empty y165 (ji6)) x9_2 x11_2 = some r) ∧ Aside0 (kq ≤ k1) ∧ Aside0 (Below w.heap.size w w'))
       case atStart => exact ⟨(x9_1), (0), (by first | rfl | (simp; done) | (simp [*]; done)), (by first | rfl | (simp; done) | (simp [*]; done)), H', ⟨Nat.le_refl _⟩, ⟨by repeat (first | (with_reducible first | exact HB.out | apply below_alloc | apply pw_below_drewN | apply below_drew1) | exact HB.out)⟩⟩
       case round =>
        clear H'
        try clear c1
        try clear p1
        try clear q1
        try clear hx1
        try clear p2
        try clear hcv2
        try clear c5
        try clear p6
        try clear c7
        try clear c7b0
        try clear c8
        try clear c8b0
        try clear c13
        try clear c13b0
        try clear c15
        try clear c15b0
        try clear c15b1
        try clear p16
        try clear q16
        try clear hx16
        try clear c17
        try clear c17b0
        try clear c17b1
        try clear c17b2
        try clear hcv20
        try clear hx168_0
        try clear p1
        try clear p168
        try clear p2
        try clear p6
        try clear q1
        try clear q168
        obtain ⟨x9_2, x11_2, rfl, rfl, HA, HK2, HB⟩ := hrel
        cases gk with
        | zero => exact absurd HA.out (by simp [stolelaw9_UrlSchemes.l1])
        | succ k2 =>
         have H := HA.out
         clear HA
         simp only [stolelaw9_UrlSchemes.l1] at H
         by_cases c21 : x11_2 < ((rdOf ByteArray.empty y165 (ji6)).size : Int)
         ·rw [if_pos c21] at H
          have c21b0 : decide (x11_2 < ((rdOf ByteArray.empty y165 (ji6)).size : Int)) = true := decide_eq_true c21
          clear c21
          by_cases c22 : 0 ≤ x11_2
          ·rw [if_pos c22] at H
           have c22b0 : decide (0 ≤ x11_2) = true := decide_eq_true c22
           clear c22
           have HC24 := Aside0.mk H
           clear H
           have p23 : 0 ≤ (x11_2 : Int) := of_decide_eq_true (by first | (with_reducible assumption) | assumption)
           have q23 : x11_2 < ((rdOf ByteArray.empty y165 (ji6)).size : Int) := of_decide_eq_true (by first | (with_reducible assumption) | assumption)
           have hx23 := bt_at (rdOf ByteArray.empty y165 (ji6)) x11_2
           replace p23 := eq_true p23
           replace q23 := eq_true q23
           go_upto_region 14 with (fail)
           go_cut [66] (fun v66 wc => ∃ (kq : Nat) (x66_23 : Bool), v66 = .bool x66_23 ∧ Aside0 (stolelaw9_UrlSchemes.j2 kq a1 a2 (rdOf ByteArray.empty y165 (ji6)) x9_2 x11_2 (bt (rdOf ByteArray.empty y165 (ji6)) x11_2) x66_23 = some r) ∧ Aside0 (kq ≤ k2) ∧ Aside0 (Below w.heap.size w wc))
           case first =>
            have H := HC24.out
            clear HC24
            obtain ⟨ji25, hji25⟩ : ∃ j_ : Int, (IntKind.u64.wrap (wrap64 (x11_2 + 8))) = j_ := ⟨_, rfl⟩
            replace H : (if 0 ≤ (ji25) then (if (Go.bits .and .i64 (shr .i64 a1 (ji25)) 1) = 1 then ((stoleref1_Letter.f (bt (rdOf ByteArray.empty y165 (ji6)) x11_2)).bind fun t180 => (stolelaw9_UrlSchemes.j2 k2 a1 a2 (rdOf ByteArray.empty y165 (ji6)) x9_2 x11_2 (bt (rdOf ByteArray.empty y165 (ji6)) x11_2) t180)) else (stolelaw9_UrlSchemes.j2 k2 a1 a2 (rdOf ByteArray.empty y165 (ji6)) x9_2 x11_2 (bt (rdOf ByteArray.empty y165 (ji6)) x11_2) false)) else (none)) = some r := by first | (rw [hji25] at H; exact H) | (simp only [hji25] at H ⊢; exact H)
            by_cases c26 : 0 ≤ (ji25)
            ·rw [if_pos c26] at H
             have c26b0 := eq_true c26
             have c26b1 : decide (0 ≤ (ji25)) = true := decide_eq_true c26
             clear c26
             obtain ⟨ji27, hji27⟩ : ∃ j_ : Int, (shr .i64 a1 (ji25)) = j_ := ⟨_, rfl⟩
             replace H : (if (Go.bits .and .i64 (ji27) 1) = 1 then ((stoleref1_Letter.f (bt (rdOf ByteArray.empty y165 (ji6)) x11_2)).bind fun t180 => (stolelaw9_UrlSchemes.j2 k2 a1 a2 (rdOf ByteArray.empty y165 (ji6)) x9_2 x11_2 (bt (rdOf ByteArray.empty y165 (ji6)) x11_2) t180)) else (stolelaw9_UrlSchemes.j2 k2 a1 a2 (rdOf ByteArray.empty y165 (ji6)) x9_2 x11_2 (bt (rdOf ByteArray.empty y165 (ji6)) x11_2) false)) = some r := by first | (rw [hji27] at H; exact H) | (simp only [hji27] at H ⊢; exact H)
             have hji27_ : (a1 / 2 ^ min (ji25).toNat 64) = ji27 := hji27
             have hji27z : (ji25) ≤ 64 → (a1 / 2 ^ (ji25).toNat) = ji27 := shr_small hji27
             by_cases c28 : (Go.bits .and .i64 (ji27) 1) = 1
             ·rw [if_pos c28] at H
              have c28b0 : ((Go.bits .and .i64 (ji27) 1) == 1) = true := beq_iff_eq.mpr c28
              have c28b1 : ((Go.bits .and .i64 (ji27) 1) != 1) = false := bne_eq_false_iff_eq.mpr c28
              clear c28
              (first | rw [c28b0] | (simp only [i64_w, i32_w]; rw [c28b0]) | skip)
              replace H := Option.bind_eq_some_iff.mp H
              obtain ⟨t180, A290, H⟩ := H
              replace H : (stolelaw9_UrlSchemes.j2 k2 a1 a2 (rdOf ByteArray.empty y165 (ji6)) x9_2 x11_2 (bt (rdOf ByteArray.empty y165 (ji6)) x11_2) t180) = some r := H
              have A29 := Aside0.mk A290
              clear A290
              have H' := Aside0.mk H
              clear H
              go_wp2_with (first | (go_at_call 14; (with_reducible refine (stoleref1_Letter.calls (bt (rdOf ByteArray.empty y165 (ji6)) x11_2) t180 _ A29.out).mono ?_); rintro e w' ⟨rfl, ⟨nd, rfl⟩⟩))
              go_meet
              case rel => exact ⟨_, (t180), (by first | rfl | (simp; done) | (simp [*]; done)), H', ⟨by have := HK1.out; have := HK2.out; first | omega | exact Nat.le_refl _⟩, ⟨by repeat (first | (with_reducible first | exact HB.out | apply below_alloc | apply pw_below_drewN | apply below_drew1) | exact HB.out)⟩⟩
             ·rw [if_neg c28] at H
              have c28b0 : ((Go.bits .and .i64 (ji27) 1) == 1) = false := beq_eq_false_iff_ne.mpr c28
              have c28b1 : ((Go.bits .and .i64 (ji27) 1) != 1) = true := bne_iff_ne.mpr c28
              (first | rw [c28b0] | (simp only [i64_w, i32_w]; rw [c28b0]) | skip)
              have H' := Aside0.mk H
              clear H
              go_wp2
              go_meet
              case rel => exact ⟨_, (false), (by first | rfl | (simp; done) | (simp [*]; done)), H', ⟨by have := HK1.out; have := HK2.out; first | omega | exact Nat.le_refl _⟩, ⟨by repeat (first | (with_reducible first | exact HB.out | apply below_alloc | apply pw_below_drewN | apply below_drew1) | exact HB.out)⟩⟩
            ·rw [if_neg c26] at H
             exact absurd H (by simp)
           case rest =>
            clear HC24
            try clear c1
            try clear p1
            try clear q1
            try clear hx1
            try clear c2
            try clear p2
            try clear q2
            try clear hx2
            try clear hcv2
            try clear c5
            try clear p6
            try clear c7
            try clear c7b0
            try clear c8
            try clear c8b0
            try clear c13
            try clear c13b0
            try clear c15
            try clear c15b0
            try clear c15b1
            try clear p16
            try clear q16
            try clear hx16
            try clear c17
            try clear c17b0
            try clear c17b1
            try clear c17b2
            try clear hcv20
            try clear c21
            try clear c21b0
            try clear c22
            try clear c22b0
            try clear p23
            try clear q23
            try clear hx23
            try clear c26
            try clear c26b0
            try clear c26b1
            try clear c28
            try clear c28b0
            try clear c28b1
            try clear hx168_0
            try clear p1
            try clear p16
            try clear p168
            try clear p2
            try clear p23
            try clear p6
            try clear q1
            try clear q16
            try clear q168
            try clear q23
            obtain ⟨kq, x66_23, rfl, HA, HJ23, HB⟩ := hcut
            cases kq with
            | zero => exact absurd HA.out (by simp [stolelaw9_UrlSchemes.j2])
            | succ kj23 =>
             have H := HA.out
             clear HA
             simp only [stolelaw9_UrlSchemes.j2] at H
             by_cases c30 : x66_23 = true
             ·subst c30
              have H1 : ((some (([((bt (rdOf ByteArray.empty y165 (ji6)) x11_2) - 32) % 256] : List Int) : List Int)).bind fun y181 => (if x9_2.size + (strOfNums y181).size ≤ 9223372036854775807 then (if 0 ≤ (IntKind.u64.wrap (wrap64 (x11_2 + 20))) then (if (Go.bits .and .i64 (shr .i64 a1 (IntKind.u64.wrap (wrap64 (x11_2 + 20)))) 1) = 1 then ((some (([(⟨#[9]⟩ : ByteArray), (⟨#[10]⟩ : ByteArray), (⟨#[13]⟩ : ByteArray)] : List ByteArray) : List ByteArray)).bind fun y184 => (if 0 ≤ (Int.tmod x11_2 3) then (if (Int.tmod x11_2 3) < (y184.length : Int) then (if x9_2.size + (strOfNums y181).size + (rdOf ByteArray.empty y184 (Int.tmod x11_2 3)).size ≤ 9223372036854775807 then (stolelaw9_UrlSchemes.l1 kj23 a1 a2 (rdOf ByteArray.empty y165 (ji6)) ((x9_2 ++ (strOfNums y181)) ++ (rdOf ByteArray.empty y184 (Int.tmod x11_2 3))) (wrap64 (x11_2 + 1))) else (none)) else (none)) else (none))) else (stolelaw9_UrlSchemes.l1 kj23 a1 a2 (rdOf ByteArray.empty y165 (ji6)) (x9_2 ++ (strOfNums y181)) (wrap64 (x11_2 + 1)))) else (none)) else (none))) = some r := by rw [if_pos rfl] at H; exact H
              clear H
              have H := H1
              clear H1
              obtain ⟨y181, hy181⟩ : ∃ y_ : List Int, y_ = (([((bt (rdOf ByteArray.empty y165 (ji6)) x11_2) - 32) % 256] : List Int)) := ⟨_, rfl⟩
              replace H : (if x9_2.size + (strOfNums y181).size ≤ 9223372036854775807 then (if 0 ≤ (IntKind.u64.wrap (wrap64 (x11_2 + 20))) then (if (Go.bits .and .i64 (shr .i64 a1 (IntKind.u64.wrap (wrap64 (x11_2 + 20)))) 1) = 1 then ((some (([(⟨#[9]⟩ : ByteArray), (⟨#[10]⟩ : ByteArray), (⟨#[13]⟩ : ByteArray)] : List ByteArray) : List ByteArray)).bind fun y184 => (if 0 ≤ (Int.tmod x11_2 3) then (if (Int.tmod x11_2 3) < (y184.length : Int) then (if x9_2.size + (strOfNums y181).size + (rdOf ByteArray.empty y184 (Int.tmod x11_2 3)).size ≤ 9223372036854775807 then (stolelaw9_UrlSchemes.l1 kj23 a1 a2 (rdOf ByteArray.empty y165 (ji6)) ((x9_2 ++ (strOfNums y181)) ++ (rdOf ByteArray.empty y184 (Int.tmod x11_2 3))) (wrap64 (x11_2 + 1))) else (none)) else (none)) else (none))) else (stolelaw9_UrlSchemes.l1 kj23 a1 a2 (rdOf ByteArray.empty y165 (ji6)) (x9_2 ++ (strOfNums y181)) (wrap64 (x11_2 + 1)))) else (none)) else (none)) = some r := by first | (rw [hy181]; with_reducible exact H) | (have H2_ := (Option.bind_some _ _).symm.trans H; rw [hy181]; with_reducible exact H2_) | (have H2_ := (Option.bind_some _ _).symm.trans H; with_reducible exact H2_) | with_reducible exact H | (rw [hy181]; exact H) | exact H
              have Ny181 := Aside0.mk hy181
              clear hy181
              by_cases c31 : x9_2.size + (strOfNums y181).size ≤ 9223372036854775807
              ·rw [if_pos c31] at H
               have c31b0 := eq_true c31
               have c31b1 : decide (x9_2.size + (strOfNums y181).size ≤ 9223372036854775807) = true := decide_eq_true c31
               try have c31b2 : (9223372036854775807 < x9_2.size + (strOfNums y181).size) = False := eq_false (Nat.not_lt.2 c31)
               obtain ⟨ji32, hji32⟩ : ∃ j_ : Int, (IntKind.u64.wrap (wrap64 (x11_2 + 20))) = j_ := ⟨_, rfl⟩
               replace H : (if 0 ≤ (ji32) then (if (Go.bits .and .i64 (shr .i64 a1 (ji32)) 1) = 1 then ((some (([(⟨#[9]⟩ : ByteArray), (⟨#[10]⟩ : ByteArray), (⟨#[13]⟩ : ByteArray)] : List ByteArray) : List ByteArray)).bind fun y184 => (if 0 ≤ (Int.tmod x11_2 3) then (if (Int.tmod x11_2 3) < (y184.length : Int) then (if x9_2.size + (strOfNums y181).size + (rdOf ByteArray.empty y184 (Int.tmod x11_2 3)).size ≤ 9223372036854775807 then (stolelaw9_UrlSchemes.l1 kj23 a1 a2 (rdOf ByteArray.empty y165 (ji6)) ((x9_2 ++ (strOfNums y181)) ++ (rdOf ByteArray.empty y184 (Int.tmod x11_2 3))) (wrap64 (x11_2 + 1))) else (none)) else (none)) else (none))) else (stolelaw9_UrlSchemes.l1 kj23 a1 a2 (rdOf ByteArray.empty y165 (ji6)) (x9_2 ++ (strOfNums y181)) (wrap64 (x11_2 + 1)))) else (none)) = some r := by first | (rw [hji32] at H; exact H) | (simp only [hji32] at H ⊢; exact H)
               by_cases c33 : 0 ≤ (ji32)
               ·rw [if_pos c33] at H
                have c33b0 := eq_true c33
                have c33b1 : decide (0 ≤ (ji32)) = true := decide_eq_true c33
                clear c33
                obtain ⟨ji34, hji34⟩ : ∃ j_ : Int, (shr .i64 a1 (ji32)) = j_ := ⟨_, rfl⟩
                replace H : (if (Go.bits .and .i64 (ji34) 1) = 1 then ((some (([(⟨#[9]⟩ : ByteArray), (⟨#[10]⟩ : ByteArray), (⟨#[13]⟩ : ByteArray)] : List ByteArray) : List ByteArray)).bind fun y184 => (if 0 ≤ (Int.tmod x11_2 3) then (if (Int.tmod x11_2 3) < (y184.length : Int) then (if x9_2.size + (strOfNums y181).size + (rdOf ByteArray.empty y184 (Int.tmod x11_2 3)).size ≤ 9223372036854775807 then (stolelaw9_UrlSchemes.l1 kj23 a1 a2 (rdOf ByteArray.empty y165 (ji6)) ((x9_2 ++ (strOfNums y181)) ++ (rdOf ByteArray.empty y184 (Int.tmod x11_2 3))) (wrap64 (x11_2 + 1))) else (none)) else (none)) else (none))) else (stolelaw9_UrlSchemes.l1 kj23 a1 a2 (rdOf ByteArray.empty y165 (ji6)) (x9_2 ++ (strOfNums y181)) (wrap64 (x11_2 + 1)))) = some r := by first | (rw [hji34] at H; exact H) | (simp only [hji34] at H ⊢; exact H)
                have hji34_ : (a1 / 2 ^ min (ji32).toNat 64) = ji34 := hji34
                have hji34z : (ji32) ≤ 64 → (a1 / 2 ^ (ji32).toNat) = ji34 := shr_small hji34
                by_cases c35 : (Go.bits .and .i64 (ji34) 1) = 1
                ·rw [if_pos c35] at H
                 have c35b0 : ((Go.bits .and .i64 (ji34) 1) == 1) = true := beq_iff_eq.mpr c35
                 have c35b1 : ((Go.bits .and .i64 (ji34) 1) != 1) = false := bne_eq_false_iff_eq.mpr c35
                 clear c35
                 obtain ⟨y184, hy184⟩ : ∃ y_ : List ByteArray, y_ = (([(⟨#[9]⟩ : ByteArray), (⟨#[10]⟩ : ByteArray), (⟨#[13]⟩ : ByteArray)] : List ByteArray)) := ⟨_, rfl⟩
                 replace H : (if 0 ≤ (Int.tmod x11_2 3) then (if (Int.tmod x11_2 3) < (y184.length : Int) then (if x9_2.size + (strOfNums y181).size + (rdOf ByteArray.empty y184 (Int.tmod x11_2 3)).size ≤ 9223372036854775807 then (stolelaw9_UrlSchemes.l1 kj23 a1 a2 (rdOf ByteArray.empty y165 (ji6)) ((x9_2 ++ (strOfNums y181)) ++ (rdOf ByteArray.empty y184 (Int.tmod x11_2 3))) (wrap64 (x11_2 + 1))) else (none)) else (none)) else (none)) = some r := by first | (rw [hy184]; with_reducible exact H) | (have H2_ := (Option.bind_some _ _).symm.trans H; rw [hy184]; with_reducible exact H2_) | (have H2_ := (Option.bind_some _ _).symm.trans H; with_reducible exact H2_) | with_reducible exact H | (rw [hy184]; exact H) | exact H
                 have Ny184 := Aside0.mk hy184
                 clear hy184
                 obtain ⟨ji36, hji36⟩ : ∃ j_ : Int, (Int.tmod x11_2 3) = j_ := ⟨_, rfl⟩
                 replace H : (if 0 ≤ (ji36) then (if (ji36) < (y184.length : Int) then (if x9_2.size + (strOfNums y181).size + (rdOf ByteArray.empty y184 (ji36)).size ≤ 9223372036854775807 then (stolelaw9_UrlSchemes.l1 kj23 a1 a2 (rdOf ByteArray.empty y165 (ji6)) ((x9_2 ++ (strOfNums y181)) ++ (rdOf ByteArray.empty y184 (ji36))) (wrap64 (x11_2 + 1))) else (none)) else (none)) else (none)) = some r := by first | (rw [hji36] at H; exact H) | (simp only [hji36] at H ⊢; exact H)
                 by_cases c37 : 0 ≤ (ji36)
                 ·rw [if_pos c37] at H
                  have c37b0 : decide (0 ≤ (ji36)) = true := decide_eq_true c37
                  clear c37
                  by_cases c38 : (ji36) < (y184.length : Int)
                  ·rw [if_pos c38] at H
                   have c38b0 : decide ((ji36) < (y184.length : Int)) = true := decide_eq_true c38
                   clear c38
                   by_cases c39 : x9_2.size + (strOfNums y181).size + (rdOf ByteArray.empty y184 (ji36)).size ≤ 9223372036854775807
                   ·rw [if_pos c39] at H
                    have c39b0 := eq_true c39
                    have c39b1 : decide (x9_2.size + (strOfNums y181).size + (rdOf ByteArray.empty y184 (ji36)).size ≤ 9223372036854775807) = true := decide_eq_true c39
                    try have c39b2 : (9223372036854775807 < x9_2.size + (strOfNums y181).size + (rdOf ByteArray.empty y184 (ji36)).size) = False := eq_false (Nat.not_lt.2 c39)
                    have H' := Aside0.mk H
                    clear H
                    go_wp2_with (first | ((with_reducible refine gate_dst (N := 71) rfl ?_); refine Kd.R_lit (Kd.int .u8) _ 5 ?hg (N := 71) ?hd (xs := ([((bt (rdOf ByteArray.empty y165 (ji6)) x11_2) - 32) % 256] : List Int)) (inner := [.int .u8 (((bt (rdOf ByteArray.empty y165 (ji6)) x11_2) - 32) % 256)]) (ok := fun _ => True) (okp := fun _ => True) ?hr ?hp (fun _ hk => hk) trivial (Below.refl _ _) (Nat.le_refl _) (by simp) ?_; (case hd => rfl); (case hg => rfl); (case hr => first | (go_simp; done) | (go_simp; rfl)); (case hp => exact (Reps.one (show Kd.M (Kd.int .u8) _ _ _ (((bt (rdOf ByteArray.empty y165 (ji6)) x11_2) - 32) % 256) [.int .u8 (((bt (rdOf ByteArray.empty y165 (ji6)) x11_2) - 32) % 256)] from rfl) (Reps.none _ _))); intro v182 w40 ho41 hb hg_ hnew_; clear hg_ hnew_; (first | rw [← Ny181.out] at ho41 | (simp only [Int.reduceToNat] at ho41; rw [← Ny181.out] at ho41)); have n0_ := Aside0.mk (Kd.R_lower ho41 (below_size (by repeat (first | (with_reducible first | exact HB.out | apply below_alloc | apply pw_below_drewN | apply below_drew1) | exact HB.out)))); have n1_ := Aside0.mk (below_step (by repeat (first | (with_reducible first | exact HB.out | apply below_alloc | apply pw_below_drewN | apply below_drew1) | exact HB.out)) hb); clear HB; have HO183 := n0_; have HB := n1_; clear n0_ n1_; clear hb ho41; have hcv42 := own_string (P := Tryd.prog) Tryd.underlying27 Tryd.underlying5 Tryd.underlying9 (Kd.own_of_R HO183.out)) | ((with_reducible refine gate_dst (N := 82) rfl ?_); refine Kd.R_lit Kd.string _ 9 ?hg (N := 82) ?hd (xs := ([(⟨#[9]⟩ : ByteArray), (⟨#[10]⟩ : ByteArray), (⟨#[13]⟩ : ByteArray)] : List ByteArray)) (inner := [.string (⟨#[9]⟩ : ByteArray), .string (⟨#[10]⟩ : ByteArray), .string (⟨#[13]⟩ : ByteArray)]) (ok := fun _ => True) (okp := fun _ => True) ?hr ?hp (fun _ hk => hk) trivial (Below.refl _ _) (Nat.le_refl _) (by simp) ?_; (case hd => rfl); (case hg => rfl); (case hr => first | (go_simp; done) | (go_simp; rfl)); (case hp => exact (Reps.one (show Kd.M Kd.string _ _ _ (⟨#[9]⟩ : ByteArray) [.string (⟨#[9]⟩ : ByteArray)] from rfl) (Reps.one (show Kd.M Kd.string _ _ _ (⟨#[10]⟩ : ByteArray) [.string (⟨#[10]⟩ : ByteArray)] from rfl) (Reps.one (show Kd.M Kd.string _ _ _ (⟨#[13]⟩ : ByteArray) [.string (⟨#[13]⟩ : ByteArray)] from rfl) (Reps.none _ _))))); intro v185 w43 ho44 hb hg_ hnew_; clear hg_ hnew_; (first | rw [← Ny184.out] at ho44 | (simp only [Int.reduceToNat] at ho44; rw [← Ny184.out] at ho44)); have n0_ := Aside0.mk (Kd.R_below (by (with_reducible repeat (first | apply Kd.R_alloc | apply Kd.R_drewN | apply Kd.R_drew)); exact HO183.out) hb); have n1_ := Aside0.mk (Kd.R_lower ho44 (below_size (by repeat (first | (with_reducible first | exact HB.out | apply below_alloc | apply pw_below_drewN | apply below_drew1) | exact HB.out)))); have n2_ := Aside0.mk (below_step (by repeat (first | (with_reducible first | exact HB.out | apply below_alloc | apply pw_below_drewN | apply below_drew1) | exact HB.out)) hb); clear HO183; clear HB; have HO183 := n0_; have HO186 := n1_; have HB := n2_; clear n0_ n1_ n2_; clear hb ho44; obtain ⟨Ao45, co45, eo45⟩ := Kd.R_slice HO186.out; subst eo45; have p187 : 0 ≤ ((ji36) : Int) := of_decide_eq_true (by first | (with_reducible assumption) | assumption); have q187 : (ji36) < (y184.length : Int) := of_decide_eq_true (by first | (with_reducible assumption) | assumption); obtain ⟨ad187, e187, hx187_0⟩ := Kd.at_string (Kd.R_reads' HO186.out).2.2 (ji36) p187 q187; cases e187; replace p187 := eq_true p187; replace q187 := eq_true q187))
                    go_roundg kj23
                    case measure => have := HK1.out; have := HK2.out; have := HJ23.out; omega
                    case rel => exact ⟨((x9_2 ++ (strOfNums y181)) ++ (rdOf ByteArray.empty y184 (ji36))), (wrap64 (x11_2 + 1)), (by first | rfl | (simp; done) | (simp only [← hji36] <;> (first | rfl | simp)) | (simp [*]; done)), (by first | rfl | (simp; done) | (simp [*]; done)), H', ⟨by have := HK1.out; have := HK2.out; have := HJ23.out; omega⟩, ⟨by repeat (first | (with_reducible first | exact HB.out | apply below_alloc | apply pw_below_drewN | apply below_drew1) | exact HB.out)⟩⟩
                   ·rw [if_neg c39] at H
                    exact absurd H (by simp)
                  ·rw [if_neg c38] at H
                   exact absurd H (by simp)
                 ·rw [if_neg c37] at H
                  exact absurd H (by simp)
                ·rw [if_neg c35] at H
                 have c35b0 : ((Go.bits .and .i64 (ji34) 1) == 1) = false := beq_eq_false_iff_ne.mpr c35
                 have c35b1 : ((Go.bits .and .i64 (ji34) 1) != 1) = true := bne_iff_ne.mpr c35
                 have H' := Aside0.mk H
                 clear H
                 go_wp2_with (first | ((with_reducible refine gate_dst (N := 71) rfl ?_); refine Kd.R_lit (Kd.int .u8) _ 5 ?hg (N := 71) ?hd (xs := ([((bt (rdOf ByteArray.empty y165 (ji6)) x11_2) - 32) % 256] : List Int)) (inner := [.int .u8 (((bt (rdOf ByteArray.empty y165 (ji6)) x11_2) - 32) % 256)]) (ok := fun _ => True) (okp := fun _ => True) ?hr ?hp (fun _ hk => hk) trivial (Below.refl _ _) (Nat.le_refl _) (by simp) ?_; (case hd => rfl); (case hg => rfl); (case hr => first | (go_simp; done) | (go_simp; rfl)); (case hp => exact (Reps.one (show Kd.M (Kd.int .u8) _ _ _ (((bt (rdOf ByteArray.empty y165 (ji6)) x11_2) - 32) % 256) [.int .u8 (((bt (rdOf ByteArray.empty y165 (ji6)) x11_2) - 32) % 256)] from rfl) (Reps.none _ _))); intro v182 w46 ho47 hb hg_ hnew_; clear hg_ hnew_; (first | rw [← Ny181.out] at ho47 | (simp only [Int.reduceToNat] at ho47; rw [← Ny181.out] at ho47)); have n0_ := Aside0.mk (Kd.R_lower ho47 (below_size (by repeat (first | (with_reducible first | exact HB.out | apply below_alloc | apply pw_below_drewN | apply below_drew1) | exact HB.out)))); have n1_ := Aside0.mk (below_step (by repeat (first | (with_reducible first | exact HB.out | apply below_alloc | apply pw_below_drewN | apply below_drew1) | exact HB.out)) hb); clear HB; have HO183 := n0_; have HB := n1_; clear n0_ n1_; clear hb ho47; have hcv48 := own_string (P := Tryd.prog) Tryd.underlying27 Tryd.underlying5 Tryd.underlying9 (Kd.own_of_R HO183.out)))
                 go_roundg kj23
                 case measure => have := HK1.out; have := HK2.out; have := HJ23.out; omega
                 case rel => exact ⟨(x9_2 ++ (strOfNums y181)), (wrap64 (x11_2 + 1)), (by first | rfl | (simp; done) | (simp [*]; done)), (by first | rfl | (simp; done) | (simp [*]; done)), H', ⟨by have := HK1.out; have := HK2.out; have := HJ23.out; omega⟩, ⟨by repeat (first | (with_reducible first | exact HB.out | apply below_alloc | apply pw_below_drewN | apply below_drew1) | exact HB.out)⟩⟩
               ·rw [if_neg c33] at H
                exact absurd H (by simp)
              ·rw [if_neg c31] at H
               exact absurd H (by simp)
             ·replace c30 := Bool.eq_false_iff.mpr c30
              subst c30
              have H1 : ((some (([(bt (rdOf ByteArray.empty y165 (ji6)) x11_2)] : List Int) : List Int)).bind fun y188 => (if x9_2.size + (strOfNums y188).size ≤ 9223372036854775807 then (if 0 ≤ (IntKind.u64.wrap (wrap64 (x11_2 + 20))) then (if (Go.bits .and .i64 (shr .i64 a1 (IntKind.u64.wrap (wrap64 (x11_2 + 20)))) 1) = 1 then ((some (([(⟨#[9]⟩ : ByteArray), (⟨#[10]⟩ : ByteArray), (⟨#[13]⟩ : ByteArray)] : List ByteArray) : List ByteArray)).bind fun y191 => (if 0 ≤ (Int.tmod x11_2 3) then (if (Int.tmod x11_2 3) < (y191.length : Int) then (if x9_2.size + (strOfNums y188).size + (rdOf ByteArray.empty y191 (Int.tmod x11_2 3)).size ≤ 9223372036854775807 then (stolelaw9_UrlSchemes.l1 kj23 a1 a2 (rdOf ByteArray.empty y165 (ji6)) ((x9_2 ++ (strOfNums y188)) ++ (rdOf ByteArray.empty y191 (Int.tmod x11_2 3))) (wrap64 (x11_2 + 1))) else (none)) else (none)) else (none))) else (stolelaw9_UrlSchemes.l1 kj23 a1 a2 (rdOf ByteArray.empty y165 (ji6)) (x9_2 ++ (strOfNums y188)) (wrap64 (x11_2 + 1)))) else (none)) else (none))) = some r := by rw [if_neg (show ¬ (false = true) by decide)] at H; exact H
              clear H
              have H := H1
              clear H1
              obtain ⟨y188, hy188⟩ : ∃ y_ : List Int, y_ = (([(bt (rdOf ByteArray.empty y165 (ji6)) x11_2)] : List Int)) := ⟨_, rfl⟩
              replace H : (if x9_2.size + (strOfNums y188).size ≤ 9223372036854775807 then (if 0 ≤ (IntKind.u64.wrap (wrap64 (x11_2 + 20))) then (if (Go.bits .and .i64 (shr .i64 a1 (IntKind.u64.wrap (wrap64 (x11_2 + 20)))) 1) = 1 then ((some (([(⟨#[9]⟩ : ByteArray), (⟨#[10]⟩ : ByteArray), (⟨#[13]⟩ : ByteArray)] : List ByteArray) : List ByteArray)).bind fun y191 => (if 0 ≤ (Int.tmod x11_2 3) then (if (Int.tmod x11_2 3) < (y191.length : Int) then (if x9_2.size + (strOfNums y188).size + (rdOf ByteArray.empty y191 (Int.tmod x11_2 3)).size ≤ 9223372036854775807 then (stolelaw9_UrlSchemes.l1 kj23 a1 a2 (rdOf ByteArray.empty y165 (ji6)) ((x9_2 ++ (strOfNums y188)) ++ (rdOf ByteArray.empty y191 (Int.tmod x11_2 3))) (wrap64 (x11_2 + 1))) else (none)) else (none)) else (none))) else (stolelaw9_UrlSchemes.l1 kj23 a1 a2 (rdOf ByteArray.empty y165 (ji6)) (x9_2 ++ (strOfNums y188)) (wrap64 (x11_2 + 1)))) else (none)) else (none)) = some r := by first | (rw [hy188]; with_reducible exact H) | (have H2_ := (Option.bind_some _ _).symm.trans H; rw [hy188]; with_reducible exact H2_) | (have H2_ := (Option.bind_some _ _).symm.trans H; with_reducible exact H2_) | with_reducible exact H | (rw [hy188]; exact H) | exact H
              have Ny188 := Aside0.mk hy188
              clear hy188
              by_cases c49 : x9_2.size + (strOfNums y188).size ≤ 9223372036854775807
              ·rw [if_pos c49] at H
               have c49b0 := eq_true c49
               have c49b1 : decide (x9_2.size + (strOfNums y188).size ≤ 9223372036854775807) = true := decide_eq_true c49
               try have c49b2 : (9223372036854775807 < x9_2.size + (strOfNums y188).size) = False := eq_false (Nat.not_lt.2 c49)
               obtain ⟨ji50, hji50⟩ : ∃ j_ : Int, (IntKind.u64.wrap (wrap64 (x11_2 + 20))) = j_ := ⟨_, rfl⟩
               replace H : (if 0 ≤ (ji50) then (if (Go.bits .and .i64 (shr .i64 a1 (ji50)) 1) = 1 then ((some (([(⟨#[9]⟩ : ByteArray), (⟨#[10]⟩ : ByteArray), (⟨#[13]⟩ : ByteArray)] : List ByteArray) : List ByteArray)).bind fun y191 => (if 0 ≤ (Int.tmod x11_2 3) then (if (Int.tmod x11_2 3) < (y191.length : Int) then (if x9_2.size + (strOfNums y188).size + (rdOf ByteArray.empty y191 (Int.tmod x11_2 3)).size ≤ 9223372036854775807 then (stolelaw9_UrlSchemes.l1 kj23 a1 a2 (rdOf ByteArray.empty y165 (ji6)) ((x9_2 ++ (strOfNums y188)) ++ (rdOf ByteArray.empty y191 (Int.tmod x11_2 3))) (wrap64 (x11_2 + 1))) else (none)) else (none)) else (none))) else (stolelaw9_UrlSchemes.l1 kj23 a1 a2 (rdOf ByteArray.empty y165 (ji6)) (x9_2 ++ (strOfNums y188)) (wrap64 (x11_2 + 1)))) else (none)) = some r := by first | (rw [hji50] at H; exact H) | (simp only [hji50] at H ⊢; exact H)
               by_cases c51 : 0 ≤ (ji50)
               ·rw [if_pos c51] at H
                have c51b0 := eq_true c51
                have c51b1 : decide (0 ≤ (ji50)) = true := decide_eq_true c51
                clear c51
                obtain ⟨ji52, hji52⟩ : ∃ j_ : Int, (shr .i64 a1 (ji50)) = j_ := ⟨_, rfl⟩
                replace H : (if (Go.bits .and .i64 (ji52) 1) = 1 then ((some (([(⟨#[9]⟩ : ByteArray), (⟨#[10]⟩ : ByteArray), (⟨#[13]⟩ : ByteArray)] : List ByteArray) : List ByteArray)).bind fun y191 => (if 0 ≤ (Int.tmod x11_2 3) then (if (Int.tmod x11_2 3) < (y191.length : Int) then (if x9_2.size + (strOfNums y188).size + (rdOf ByteArray.empty y191 (Int.tmod x11_2 3)).size ≤ 9223372036854775807 then (stolelaw9_UrlSchemes.l1 kj23 a1 a2 (rdOf ByteArray.empty y165 (ji6)) ((x9_2 ++ (strOfNums y188)) ++ (rdOf ByteArray.empty y191 (Int.tmod x11_2 3))) (wrap64 (x11_2 + 1))) else (none)) else (none)) else (none))) else (stolelaw9_UrlSchemes.l1 kj23 a1 a2 (rdOf ByteArray.empty y165 (ji6)) (x9_2 ++ (strOfNums y188)) (wrap64 (x11_2 + 1)))) = some r := by first | (rw [hji52] at H; exact H) | (simp only [hji52] at H ⊢; exact H)
                have hji52_ : (a1 / 2 ^ min (ji50).toNat 64) = ji52 := hji52
                have hji52z : (ji50) ≤ 64 → (a1 / 2 ^ (ji50).toNat) = ji52 := shr_small hji52
                by_cases c53 : (Go.bits .and .i64 (ji52) 1) = 1
                ·rw [if_pos c53] at H
                 have c53b0 : ((Go.bits .and .i64 (ji52) 1) == 1) = true := beq_iff_eq.mpr c53
                 have c53b1 : ((Go.bits .and .i64 (ji52) 1) != 1) = false := bne_eq_false_iff_eq.mpr c53
                 clear c53
                 obtain ⟨y191, hy191⟩ : ∃ y_ : List ByteArray, y_ = (([(⟨#[9]⟩ : ByteArray), (⟨#[10]⟩ : ByteArray), (⟨#[13]⟩ : ByteArray)] : List ByteArray)) := ⟨_, rfl⟩
                 replace H : (if 0 ≤ (Int.tmod x11_2 3) then (if (Int.tmod x11_2 3) < (y191.length : Int) then (if x9_2.size + (strOfNums y188).size + (rdOf ByteArray.empty y191 (Int.tmod x11_2 3)).size ≤ 9223372036854775807 then (stolelaw9_UrlSchemes.l1 kj23 a1 a2 (rdOf ByteArray.empty y165 (ji6)) ((x9_2 ++ (strOfNums y188)) ++ (rdOf ByteArray.empty y191 (Int.tmod x11_2 3))) (wrap64 (x11_2 + 1))) else (none)) else (none)) else (none)) = some r := by first | (rw [hy191]; with_reducible exact H) | (have H2_ := (Option.bind_some _ _).symm.trans H; rw [hy191]; with_reducible exact H2_) | (have H2_ := (Option.bind_some _ _).symm.trans H; with_reducible exact H2_) | with_reducible exact H | (rw [hy191]; exact H) | exact H
                 have Ny191 := Aside0.mk hy191
                 clear hy191
                 obtain ⟨ji54, hji54⟩ : ∃ j_ : Int, (Int.tmod x11_2 3) = j_ := ⟨_, rfl⟩
                 replace H : (if 0 ≤ (ji54) then (if (ji54) < (y191.length : Int) then (if x9_2.size + (strOfNums y188).size + (rdOf ByteArray.empty y191 (ji54)).size ≤ 9223372036854775807 then (stolelaw9_UrlSchemes.l1 kj23 a1 a2 (rdOf ByteArray.empty y165 (ji6)) ((x9_2 ++ (strOfNums y188)) ++ (rdOf ByteArray.empty y191 (ji54))) (wrap64 (x11_2 + 1))) else (none)) else (none)) else (none)) = some r := by first | (rw [hji54] at H; exact H) | (simp only [hji54] at H ⊢; exact H)
                 by_cases c55 : 0 ≤ (ji54)
                 ·rw [if_pos c55] at H
                  have c55b0 : decide (0 ≤ (ji54)) = true := decide_eq_true c55
                  clear c55
                  by_cases c56 : (ji54) < (y191.length : Int)
                  ·rw [if_pos c56] at H
                   have c56b0 : decide ((ji54) < (y191.length : Int)) = true := decide_eq_true c56
                   clear c56
                   by_cases c57 : x9_2.size + (strOfNums y188).size + (rdOf ByteArray.empty y191 (ji54)).size ≤ 9223372036854775807
                   ·rw [if_pos c57] at H
                    have c57b0 := eq_true c57
                    have c57b1 : decide (x9_2.size + (strOfNums y188).size + (rdOf ByteArray.empty y191 (ji54)).size ≤ 9223372036854775807) = true := decide_eq_true c57
                    try have c57b2 : (9223372036854775807 < x9_2.size + (strOfNums y188).size + (rdOf ByteArray.empty y191 (ji54)).size) = False := eq_false (Nat.not_lt.2 c57)
                    have H' := Aside0.mk H
                    clear H
                    go_wp2_with (first | ((with_reducible refine gate_dst (N := 71) rfl ?_); refine Kd.R_lit (Kd.int .u8) _ 5 ?hg (N := 71) ?hd (xs := ([(bt (rdOf ByteArray.empty y165 (ji6)) x11_2)] : List Int)) (inner := [.int .u8 (bt (rdOf ByteArray.empty y165 (ji6)) x11_2)]) (ok := fun _ => True) (okp := fun _ => True) ?hr ?hp (fun _ hk => hk) trivial (Below.refl _ _) (Nat.le_refl _) (by simp) ?_; (case hd => rfl); (case hg => rfl); (case hr => first | (go_simp; done) | (go_simp; rfl)); (case hp => exact (Reps.one (show Kd.M (Kd.int .u8) _ _ _ (bt (rdOf ByteArray.empty y165 (ji6)) x11_2) [.int .u8 (bt (rdOf ByteArray.empty y165 (ji6)) x11_2)] from rfl) (Reps.none _ _))); intro v189 w58 ho59 hb hg_ hnew_; clear hg_ hnew_; (first | rw [← Ny188.out] at ho59 | (simp only [Int.reduceToNat] at ho59; rw [← Ny188.out] at ho59)); have n0_ := Aside0.mk (Kd.R_lower ho59 (below_size (by repeat (first | (with_reducible first | exact HB.out | apply below_alloc | apply pw_below_drewN | apply below_drew1) | exact HB.out)))); have n1_ := Aside0.mk (below_step (by repeat (first | (with_reducible first | exact HB.out | apply below_alloc | apply pw_below_drewN | apply below_drew1) | exact HB.out)) hb); clear HB; have HO190 := n0_; have HB := n1_; clear n0_ n1_; clear hb ho59; have hcv60 := own_string (P := Tryd.prog) Tryd.underlying27 Tryd.underlying5 Tryd.underlying9 (Kd.own_of_R HO190.out)) | ((with_reducible refine gate_dst (N := 82) rfl ?_); refine Kd.R_lit Kd.string _ 9 ?hg (N := 82) ?hd (xs := ([(⟨#[9]⟩ : ByteArray), (⟨#[10]⟩ : ByteArray), (⟨#[13]⟩ : ByteArray)] : List ByteArray)) (inner := [.string (⟨#[9]⟩ : ByteArray), .string (⟨#[10]⟩ : ByteArray), .string (⟨#[13]⟩ : ByteArray)]) (ok := fun _ => True) (okp := fun _ => True) ?hr ?hp (fun _ hk => hk) trivial (Below.refl _ _) (Nat.le_refl _) (by simp) ?_; (case hd => rfl); (case hg => rfl); (case hr => first | (go_simp; done) | (go_simp; rfl)); (case hp => exact (Reps.one (show Kd.M Kd.string _ _ _ (⟨#[9]⟩ : ByteArray) [.string (⟨#[9]⟩ : ByteArray)] from rfl) (Reps.one (show Kd.M Kd.string _ _ _ (⟨#[10]⟩ : ByteArray) [.string (⟨#[10]⟩ : ByteArray)] from rfl) (Reps.one (show Kd.M Kd.string _ _ _ (⟨#[13]⟩ : ByteArray) [.string (⟨#[13]⟩ : ByteArray)] from rfl) (Reps.none _ _))))); intro v192 w61 ho62 hb hg_ hnew_; clear hg_ hnew_; (first | rw [← Ny191.out] at ho62 | (simp only [Int.reduceToNat] at ho62; rw [← Ny191.out] at ho62)); have n0_ := Aside0.mk (Kd.R_below (by (with_reducible repeat (first | apply Kd.R_alloc | apply Kd.R_drewN | apply Kd.R_drew)); exact HO190.out) hb); have n1_ := Aside0.mk (Kd.R_lower ho62 (below_size (by repeat (first | (with_reducible first | exact HB.out | apply below_alloc | apply pw_below_drewN | apply below_drew1) | exact HB.out)))); have n2_ := Aside0.mk (below_step (by repeat (first | (with_reducible first | exact HB.out | apply below_alloc | apply pw_below_drewN | apply below_drew1) | exact HB.out)) hb); clear HO190; clear HB; have HO190 := n0_; have HO193 := n1_; have HB := n2_; clear n0_ n1_ n2_; clear hb ho62; obtain ⟨Ao63, co63, eo63⟩ := Kd.R_slice HO193.out; subst eo63; have p194 : 0 ≤ ((ji54) : Int) := of_decide_eq_true (by first | (with_reducible assumption) | assumption); have q194 : (ji54) < (y191.length : Int) := of_decide_eq_true (by first | (with_reducible assumption) | assumption); obtain ⟨ad194, e194, hx194_0⟩ := Kd.at_string (Kd.R_reads' HO193.out).2.2 (ji54) p194 q194; cases e194; replace p194 := eq_true p194; replace q194 := eq_true q194))
                    go_roundg kj23
                    case measure => have := HK1.out; have := HK2.out; have := HJ23.out; omega
                    case rel => exact ⟨((x9_2 ++ (strOfNums y188)) ++ (rdOf ByteArray.empty y191 (ji54))), (wrap64 (x11_2 + 1)), (by first | rfl | (simp; done) | (simp only [← hji54] <;> (first | rfl | simp)) | (simp [*]; done)), (by first | rfl | (simp; done) | (simp [*]; done)), H', ⟨by have := HK1.out; have := HK2.out; have := HJ23.out; omega⟩, ⟨by repeat (first | (with_reducible first | exact HB.out | apply below_alloc | apply pw_below_drewN | apply below_drew1) | exact HB.out)⟩⟩
                   ·rw [if_neg c57] at H
                    exact absurd H (by simp)
                  ·rw [if_neg c56] at H
                   exact absurd H (by simp)
                 ·rw [if_neg c55] at H
                  exact absurd H (by simp)
                ·rw [if_neg c53] at H
                 have c53b0 : ((Go.bits .and .i64 (ji52) 1) == 1) = false := beq_eq_false_iff_ne.mpr c53
                 have c53b1 : ((Go.bits .and .i64 (ji52) 1) != 1) = true := bne_iff_ne.mpr c53
                 have H' := Aside0.mk H
                 clear H
                 go_wp2_with (first | ((with_reducible refine gate_dst (N := 71) rfl ?_); refine Kd.R_lit (Kd.int .u8) _ 5 ?hg (N := 71) ?hd (xs := ([(bt (rdOf ByteArray.empty y165 (ji6)) x11_2)] : List Int)) (inner := [.int .u8 (bt (rdOf ByteArray.empty y165 (ji6)) x11_2)]) (ok := fun _ => True) (okp := fun _ => True) ?hr ?hp (fun _ hk => hk) trivial (Below.refl _ _) (Nat.le_refl _) (by simp) ?_; (case hd => rfl); (case hg => rfl); (case hr => first | (go_simp; done) | (go_simp; rfl)); (case hp => exact (Reps.one (show Kd.M (Kd.int .u8) _ _ _ (bt (rdOf ByteArray.empty y165 (ji6)) x11_2) [.int .u8 (bt (rdOf ByteArray.empty y165 (ji6)) x11_2)] from rfl) (Reps.none _ _))); intro v189 w64 ho65 hb hg_ hnew_; clear hg_ hnew_; (first | rw [← Ny188.out] at ho65 | (simp only [Int.reduceToNat] at ho65; rw [← Ny188.out] at ho65)); have n0_ := Aside0.mk (Kd.R_lower ho65 (below_size (by repeat (first | (with_reducible first | exact HB.out | apply below_alloc | apply pw_below_drewN | apply below_drew1) | exact HB.out)))); have n1_ := Aside0.mk (below_step (by repeat (first | (with_reducible first | exact HB.out | apply below_alloc | apply pw_below_drewN | apply below_drew1) | exact HB.out)) hb); clear HB; have HO190 := n0_; have HB := n1_; clear n0_ n1_; clear hb ho65; have hcv66 := own_string (P := Tryd.prog) Tryd.underlying27 Tryd.underlying5 Tryd.underlying9 (Kd.own_of_R HO190.out)))
                 go_roundg kj23
                 case measure => have := HK1.out; have := HK2.out; have := HJ23.out; omega
                 case rel => exact ⟨(x9_2 ++ (strOfNums y188)), (wrap64 (x11_2 + 1)), (by first | rfl | (simp; done) | (simp [*]; done)), (by first | rfl | (simp; done) | (simp [*]; done)), H', ⟨by have := HK1.out; have := HK2.out; have := HJ23.out; omega⟩, ⟨by repeat (first | (with_reducible first | exact HB.out | apply below_alloc | apply pw_below_drewN | apply below_drew1) | exact HB.out)⟩⟩
               ·rw [if_neg c51] at H
                exact absurd H (by simp)
              ·rw [if_neg c49] at H
               exact absurd H (by simp)
          ·rw [if_neg c22] at H
           exact absurd H (by simp)
         ·rw [if_neg c21] at H
          have c21b0 : decide (x11_2 < ((rdOf ByteArray.empty y165 (ji6)).size : Int)) = false := decide_eq_false c21
          clear c21
          by_cases c67 : x9_2.size + 1 ≤ 9223372036854775807
          ·rw [if_pos c67] at H
           have c67b0 := eq_true c67
           have c67b1 : decide (x9_2.size + 1 ≤ 9223372036854775807) = true := decide_eq_true c67
           try have c67b2 : (9223372036854775807 < x9_2.size + 1) = False := eq_false (Nat.not_lt.2 c67)
           by_cases c68 : x9_2.size + 1 + a2.size ≤ 9223372036854775807
           ·rw [if_pos c68] at H
            have c68b0 := eq_true c68
            have c68b1 : decide (x9_2.size + 1 + a2.size ≤ 9223372036854775807) = true := decide_eq_true c68
            try have c68b2 : (9223372036854775807 < x9_2.size + 1 + a2.size) = False := eq_false (Nat.not_lt.2 c68)
            replace H := Option.bind_eq_some_iff.mp H
            obtain ⟨⟨t172, t173⟩, A690, H⟩ := H
            replace H : (if x9_2.size + 2 ≤ 9223372036854775807 then (if x9_2.size + 2 + a2.size ≤ 9223372036854775807 then ((url_Scheme.f ((x9_2 ++ (⟨#[47, 58]⟩ : ByteArray)) ++ a2)).bind fun bt174 => (if (rdOf ByteArray.empty y165 (ji6)).toList = ([104, 116, 116, 112] : List UInt8) then (if t172.toList = (rdOf ByteArray.empty y165 (ji6)).toList then (if t173 = true then (if bt174.2 = true then (some false) else ((url_Start.f ((x9_2 ++ (⟨#[58]⟩ : ByteArray)) ++ a2)).bind fun t176 => (some ((t176.toList == ([35, 90, 103, 111, 116, 109, 112, 108, 90] : List UInt8)) == (!true))))) else (some false)) else (some false)) else (if (rdOf ByteArray.empty y165 (ji6)).toList = ([104, 116, 116, 112, 115] : List UInt8) then (if t172.toList = (rdOf ByteArray.empty y165 (ji6)).toList then (if t173 = true then (if bt174.2 = true then (some false) else ((url_Start.f ((x9_2 ++ (⟨#[58]⟩ : ByteArray)) ++ a2)).bind fun t177 => (some ((t177.toList == ([35, 90, 103, 111, 116, 109, 112, 108, 90] : List UInt8)) == (!true))))) else (some false)) else (some false)) else (if (rdOf ByteArray.empty y165 (ji6)).toList = ([109, 97, 105, 108, 116, 111] : List UInt8) then (if t172.toList = (rdOf ByteArray.empty y165 (ji6)).toList then (if t173 = true then (if bt174.2 = true then (some false) else ((url_Start.f ((x9_2 ++ (⟨#[58]⟩ : ByteArray)) ++ a2)).bind fun t178 => (some ((t178.toList == ([35, 90, 103, 111, 116, 109, 112, 108, 90] : List UInt8)) == (!true))))) else (some false)) else (some false)) else (if t172.toList = (rdOf ByteArray.empty y165 (ji6)).toList then (if t173 = true then (if bt174.2 = true then (some false) else ((url_Start.f ((x9_2 ++ (⟨#[58]⟩ : ByteArray)) ++ a2)).bind fun t179 => (some ((t179.toList == ([35, 90, 103, 111, 116, 109, 112, 108, 90] : List UInt8)) == (!((rdOf ByteArray.empty y165 (ji6)).toList == ([116, 101, 108] : List UInt8))))))) else (some false)) else (some false)))))) else (none)) else (none)) = some r := H
            have A69 := Aside0.mk A690
            clear A690
            by_cases c70 : x9_2.size + 2 ≤ 9223372036854775807
            ·rw [if_pos c70] at H
             have c70b0 := eq_true c70
             have c70b1 : decide (x9_2.size + 2 ≤ 9223372036854775807) = true := decide_eq_true c70
             try have c70b2 : (9223372036854775807 < x9_2.size + 2) = False := eq_false (Nat.not_lt.2 c70)
             by_cases c71 : x9_2.size + 2 + a2.size ≤ 9223372036854775807
             ·rw [if_pos c71] at H
              have c71b0 := eq_true c71
              have c71b1 : decide (x9_2.size + 2 + a2.size ≤ 9223372036854775807) = true := decide_eq_true c71
              try have c71b2 : (9223372036854775807 < x9_2.size + 2 + a2.size) = False := eq_false (Nat.not_lt.2 c71)
              replace H := Option.bind_eq_some_iff.mp H
              obtain ⟨⟨t174, t175⟩, A720, H⟩ := H
              replace H : (if (rdOf ByteArray.empty y165 (ji6)).toList = ([104, 116, 116, 112] : List UInt8) then (if t172.toList = (rdOf ByteArray.empty y165 (ji6)).toList then (if t173 = true then (if t175 = true then (some false) else ((url_Start.f ((x9_2 ++ (⟨#[58]⟩ : ByteArray)) ++ a2)).bind fun t176 => (some ((t176.toList == ([35, 90, 103, 111, 116, 109, 112, 108, 90] : List UInt8)) == (!true))))) else (some false)) else (some false)) else (if (rdOf ByteArray.empty y165 (ji6)).toList = ([104, 116, 116, 112, 115] : List UInt8) then (if t172.toList = (rdOf ByteArray.empty y165 (ji6)).toList then (if t173 = true then (if t175 = true then (some false) else ((url_Start.f ((x9_2 ++ (⟨#[58]⟩ : ByteArray)) ++ a2)).bind fun t177 => (some ((t177.toList == ([35, 90, 103, 111, 116, 109, 112, 108, 90] : List UInt8)) == (!true))))) else (some false)) else (some false)) else (if (rdOf ByteArray.empty y165 (ji6)).toList = ([109, 97, 105, 108, 116, 111] : List UInt8) then (if t172.toList = (rdOf ByteArray.empty y165 (ji6)).toList then (if t173 = true then (if t175 = true then (some false) else ((url_Start.f ((x9_2 ++ (⟨#[58]⟩ : ByteArray)) ++ a2)).bind fun t178 => (some ((t178.toList == ([35, 90, 103, 111, 116, 109, 112, 108, 90] : List UInt8)) == (!true))))) else (some false)) else (some false)) else (if t172.toList = (rdOf ByteArray.empty y165 (ji6)).toList then (if t173 = true then (if t175 = true then (some false) else ((url_Start.f ((x9_2 ++ (⟨#[58]⟩ : ByteArray)) ++ a2)).bind fun t179 => (some ((t179.toList == ([35, 90, 103, 111, 116, 109, 112, 108, 90] : List UInt8)) == (!((rdOf ByteArray.empty y165 (ji6)).toList == ([116, 101, 108] : List UInt8))))))) else (some false)) else (some false))))) = some r := H
              have A72 := Aside0.mk A720
              clear A720
              by_cases c73 : (rdOf ByteArray.empty y165 (ji6)).toList = ([104, 116, 116, 112] : List UInt8)
              ·rw [if_pos c73] at H
               have c73b0 : ((rdOf ByteArray.empty y165 (ji6)).toList == ([104, 116, 116, 112] : List UInt8)) = true := beq_iff_eq.mpr c73
               have c73b1 : ((rdOf ByteArray.empty y165 (ji6)).toList != ([104, 116, 116, 112] : List UInt8)) = false := bne_eq_false_iff_eq.mpr c73
               clear c73
               by_cases c74 : t172.toList = (rdOf ByteArray.empty y165 (ji6)).toList
               ·rw [if_pos c74] at H
                have c74b0 : (t172.toList == (rdOf ByteArray.empty y165 (ji6)).toList) = true := beq_iff_eq.mpr c74
                have c74b1 : (t172.toList != (rdOf ByteArray.empty y165 (ji6)).toList) = false := bne_eq_false_iff_eq.mpr c74
                clear c74
                by_cases c75 : t173 = true
                ·subst c75
                 have H1 : (if t175 = true then (some false) else ((url_Start.f ((x9_2 ++ (⟨#[58]⟩ : ByteArray)) ++ a2)).bind fun t176 => (some ((t176.toList == ([35, 90, 103, 111, 116, 109, 112, 108, 90] : List UInt8)) == (!true))))) = some r := by rw [if_pos rfl] at H; exact H
                 clear H
                 have H := H1
                 clear H1
                 by_cases c76 : t175 = true
                 ·subst c76
                  have H1 : (some false) = some r := by rw [if_pos rfl] at H; exact H
                  clear H
                  have H := H1
                  clear H1
                  obtain rfl := Option.some.inj H
                  go_wp2_with (first | ((with_reducible refine gate_callee (f := 11) rfl ?_); refine goesL_ (some 93) rfl rfl Tryd.func11 (by kernel_rfl) rfl #[.string ((x9_2 ++ (⟨#[58]⟩ : ByteArray)) ++ a2)] rfl (by (try simp only [List.map_toArray, List.map_cons, List.map_nil]); first | done | rfl | (simp only [List.length_drop, List.length_take]; rfl)) ?_; (with_reducible refine (url_Scheme.calls ((x9_2 ++ (⟨#[58]⟩ : ByteArray)) ++ a2) t172 true _ A69.out).mono ?_); rintro e w77 ⟨rfl, hb⟩; refine ⟨_, rfl, ?_⟩; have n0_ := Aside0.mk (below_step (by repeat (first | (with_reducible first | exact HB.out | apply below_alloc | apply pw_below_drewN | apply below_drew1) | exact HB.out)) hb); clear HB; have HB := n0_; clear n0_; (try clear hb); (try clear hb2); (try clear hk); (try clear hi)) | ((with_reducible refine gate_callee (f := 11) rfl ?_); refine goesL_ (some 101) rfl rfl Tryd.func11 (by kernel_rfl) rfl #[.string ((x9_2 ++ (⟨#[47, 58]⟩ : ByteArray)) ++ a2)] rfl (by (try simp only [List.map_toArray, List.map_cons, List.map_nil]); first | done | rfl | (simp only [List.length_drop, List.length_take]; rfl)) ?_; (with_reducible refine (url_Scheme.calls ((x9_2 ++ (⟨#[47, 58]⟩ : ByteArray)) ++ a2) t174 true _ A72.out).mono ?_); rintro e w78 ⟨rfl, hb⟩; refine ⟨_, rfl, ?_⟩; have n0_ := Aside0.mk (below_step (by repeat (first | (with_reducible first | exact HB.out | apply below_alloc | apply pw_below_drewN | apply below_drew1) | exact HB.out)) hb); clear HB; have HB := n0_; clear n0_; (try clear hb); (try clear hb2); (try clear hk); (try clear hi)))
                  go_ret
                  exact ⟨by first | rfl | (simp [errW_none, errW_some] <;> rfl) | (simp only [← hji6]; first | rfl | (simp [errW_none, errW_some] <;> rfl)) | (simp [*, errW_none, errW_some] <;> rfl) | (rw [ne_nil_not]; rfl), by repeat (first | (with_reducible first | exact HB.out | apply below_alloc | apply pw_below_drewN | apply below_drew1) | exact HB.out)⟩
                 ·replace c76 := Bool.eq_false_iff.mpr c76
                  subst c76
                  have H1 : ((url_Start.f ((x9_2 ++ (⟨#[58]⟩ : ByteArray)) ++ a2)).bind fun t176 => (some ((t176.toList == ([35, 90, 103, 111, 116, 109, 112, 108, 90] : List UInt8)) == (!true)))) = some r := by rw [if_neg (show ¬ (false = true) by decide)] at H; exact H
                  clear H
                  have H := H1
                  clear H1
                  replace H := Option.bind_eq_some_iff.mp H
                  obtain ⟨t176, A790, H⟩ := H
                  replace H : (some ((t176.toList == ([35, 90, 103, 111, 116, 109, 112, 108, 90] : List UInt8)) == (!true))) = some r := H
                  have A79 := Aside0.mk A790
                  clear A790
                  obtain rfl := Option.some.inj H
                  go_wp2_with (first | ((with_reducible refine gate_callee (f := 11) rfl ?_); refine goesL_ (some 93) rfl rfl Tryd.func11 (by kernel_rfl) rfl #[.string ((x9_2 ++ (⟨#[58]⟩ : ByteArray)) ++ a2)] rfl (by (try simp only [List.map_toArray, List.map_cons, List.map_nil]); first | done | rfl | (simp only [List.length_drop, List.length_take]; rfl)) ?_; (with_reducible refine (url_Scheme.calls ((x9_2 ++ (⟨#[58]⟩ : ByteArray)) ++ a2) t172 true _ A69.out).mono ?_); rintro e w80 ⟨rfl, hb⟩; refine ⟨_, rfl, ?_⟩; have n0_ := Aside0.mk (below_step (by repeat (first | (with_reducible first | exact HB.out | apply below_alloc | apply pw_below_drewN | apply below_drew1) | exact HB.out)) hb); clear HB; have HB := n0_; clear n0_; (try clear hb); (try clear hb2); (try clear hk); (try clear hi)) | ((with_reducible refine gate_callee (f := 11) rfl ?_); refine goesL_ (some 101) rfl rfl Tryd.func11 (by kernel_rfl) rfl #[.string ((x9_2 ++ (⟨#[47, 58]⟩ : ByteArray)) ++ a2)] rfl (by (try simp only [List.map_toArray, List.map_cons, List.map_nil]); first | done | rfl | (simp only [List.length_drop, List.length_take]; rfl)) ?_; (with_reducible refine (url_Scheme.calls ((x9_2 ++ (⟨#[47, 58]⟩ : ByteArray)) ++ a2) t174 false _ A72.out).mono ?_); rintro e w81 ⟨rfl, hb⟩; refine ⟨_, rfl, ?_⟩; have n0_ := Aside0.mk (below_step (by repeat (first | (with_reducible first | exact HB.out | apply below_alloc | apply pw_below_drewN | apply below_drew1) | exact HB.out)) hb); clear HB; have HB := n0_; clear n0_; (try clear hb); (try clear hb2); (try clear hk); (try clear hi)) | (go_at_call 9; (with_reducible refine (url_Start.calls ((x9_2 ++ (⟨#[58]⟩ : ByteArray)) ++ a2) t176 _ (tabs_below HT.out (by repeat (first | (with_reducible first | exact HB.out | apply below_alloc | apply pw_below_drewN | apply below_drew1) | exact HB.out))) A79.out).mono ?_); rintro e w82 ⟨rfl, hb⟩; have n0_ := Aside0.mk (below_step (by repeat (first | (with_reducible first | exact HB.out | apply below_alloc | apply pw_below_drewN | apply below_drew1) | exact HB.out)) hb); clear HB; have HB := n0_; clear n0_; (try clear hb); (try clear hb2); (try clear hk); (try clear hi)))
                  go_ret
                  exact ⟨by first | rfl | (simp [errW_none, errW_some] <;> rfl) | (simp only [← hji6]; first | rfl | (simp [errW_none, errW_some] <;> rfl)) | (simp [*, errW_none, errW_some] <;> rfl) | (rw [ne_nil_not]; rfl), by repeat (first | (with_reducible first | exact HB.out | apply below_alloc | apply pw_below_drewN | apply below_drew1) | exact HB.out)⟩
                ·replace c75 := Bool.eq_false_iff.mpr c75
                 subst c75
                 have H1 : (some false) = some r := by rw [if_neg (show ¬ (false = true) by decide)] at H; exact H
                 clear H
                 have H := H1
                 clear H1
                 obtain rfl := Option.some.inj H
                 go_wp2_with (first | ((with_reducible refine gate_callee (f := 11) rfl ?_); refine goesL_ (some 93) rfl rfl Tryd.func11 (by kernel_rfl) rfl #[.string ((x9_2 ++ (⟨#[58]⟩ : ByteArray)) ++ a2)] rfl (by (try simp only [List.map_toArray, List.map_cons, List.map_nil]); first | done | rfl | (simp only [List.length_drop, List.length_take]; rfl)) ?_; (with_reducible refine (url_Scheme.calls ((x9_2 ++ (⟨#[58]⟩ : ByteArray)) ++ a2) t172 false _ A69.out).mono ?_); rintro e w83 ⟨rfl, hb⟩; refine ⟨_, rfl, ?_⟩; have n0_ := Aside0.mk (below_step (by repeat (first | (with_reducible first | exact HB.out | apply below_alloc | apply pw_below_drewN | apply below_drew1) | exact HB.out)) hb); clear HB; have HB := n0_; clear n0_; (try clear hb); (try clear hb2); (try clear hk); (try clear hi)) | ((with_reducible refine gate_callee (f := 11) rfl ?_); refine goesL_ (some 101) rfl rfl Tryd.func11 (by kernel_rfl) rfl #[.string ((x9_2 ++ (⟨#[47, 58]⟩ : ByteArray)) ++ a2)] rfl (by (try simp only [List.map_toArray, List.map_cons, List.map_nil]); first | done | rfl | (simp only [List.length_drop, List.length_take]; rfl)) ?_; (with_reducible refine (url_Scheme.calls ((x9_2 ++ (⟨#[47, 58]⟩ : ByteArray)) ++ a2) t174 t175 _ A72.out).mono ?_); rintro e w84 ⟨rfl, hb⟩; refine ⟨_, rfl, ?_⟩; have n0_ := Aside0.mk (below_step (by repeat (first | (with_reducible first | exact HB.out | apply below_alloc | apply pw_below_drewN | apply below_drew1) | exact HB.out)) hb); clear HB; have HB := n0_; clear n0_; (try clear hb); (try clear hb2); (try clear hk); (try clear hi)))
                 go_ret
                 exact ⟨by first | rfl | (simp [errW_none, errW_some] <;> rfl) | (simp only [← hji6]; first | rfl | (simp [errW_none, errW_some] <;> rfl)) | (simp [*, errW_none, errW_some] <;> rfl) | (rw [ne_nil_not]; rfl), by repeat (first | (with_reducible first | exact HB.out | apply below_alloc | apply pw_below_drewN | apply below_drew1) | exact HB.out)⟩
               ·rw [if_neg c74] at H
                have c74b0 : (t172.toList == (rdOf ByteArray.empty y165 (ji6)).toList) = false := beq_eq_false_iff_ne.mpr c74
                have c74b1 : (t172.toList != (rdOf ByteArray.empty y165 (ji6)).toList) = true := bne_iff_ne.mpr c74
                obtain rfl := Option.some.inj H
                go_wp2_with (first | ((with_reducible refine gate_callee (f := 11) rfl ?_); refine goesL_ (some 93) rfl rfl Tryd.func11 (by kernel_rfl) rfl #[.string ((x9_2 ++ (⟨#[58]⟩ : ByteArray)) ++ a2)] rfl (by (try simp only [List.map_toArray, List.map_cons, List.map_nil]); first | done | rfl | (simp only [List.length_drop, List.length_take]; rfl)) ?_; (with_reducible refine (url_Scheme.calls ((x9_2 ++ (⟨#[58]⟩ : ByteArray)) ++ a2) t172 t173 _ A69.out).mono ?_); rintro e w85 ⟨rfl, hb⟩; refine ⟨_, rfl, ?_⟩; have n0_ := Aside0.mk (below_step (by repeat (first | (with_reducible first | exact HB.out | apply below_alloc | apply pw_below_drewN | apply below_drew1) | exact HB.out)) hb); clear HB; have HB := n0_; clear n0_; (try clear hb); (try clear hb2); (try clear hk); (try clear hi)) | ((with_reducible refine gate_callee (f := 11) rfl ?_); refine goesL_ (some 101) rfl rfl Tryd.func11 (by kernel_rfl) rfl #[.string ((x9_2 ++ (⟨#[47, 58]⟩ : ByteArray)) ++ a2)] rfl (by (try simp only [List.map_toArray, List.map_cons, List.map_nil]); first | done | rfl | (simp only [List.length_drop, List.length_take]; rfl)) ?_; (with_reducible refine (url_Scheme.calls ((x9_2 ++ (⟨#[47, 58]⟩ : ByteArray)) ++ a2) t174 t175 _ A72.out).mono ?_); rintro e w86 ⟨rfl, hb⟩; refine ⟨_, rfl, ?_⟩; have n0_ := Aside0.mk (below_step (by repeat (first | (with_reducible first | exact HB.out | apply below_alloc | apply pw_below_drewN | apply below_drew1) | exact HB.out)) hb); clear HB; have HB := n0_; clear n0_; (try clear hb); (try clear hb2); (try clear hk); (try clear hi)))
                go_ret
                exact ⟨by first | rfl | (simp [errW_none, errW_some] <;> rfl) | (simp only [← hji6]; first | rfl | (simp [errW_none, errW_some] <;> rfl)) | (simp [*, errW_none, errW_some] <;> rfl) | (rw [ne_nil_not]; rfl), by repeat (first | (with_reducible first | exact HB.out | apply below_alloc | apply pw_below_drewN | apply below_drew1) | exact HB.out)⟩
              ·rw [if_neg c73] at H
               have c73b0 : ((rdOf ByteArray.empty y165 (ji6)).toList == ([104, 116, 116, 112] : List UInt8)) = false := beq_eq_false_iff_ne.mpr c73
               have c73b1 : ((rdOf ByteArray.empty y165 (ji6)).toList != ([104, 116, 116, 112] : List UInt8)) = true := bne_iff_ne.mpr c73
               by_cases c87 : (rdOf ByteArray.empty y165 (ji6)).toList = ([104, 116, 116, 112, 115] : List UInt8)
               ·rw [if_pos c87] at H
                have c87b0 : ((rdOf ByteArray.empty y165 (ji6)).toList == ([104, 116, 116, 112, 115] : List UInt8)) = true := beq_iff_eq.mpr c87
                have c87b1 : ((rdOf ByteArray.empty y165 (ji6)).toList != ([104, 116, 116, 112, 115] : List UInt8)) = false := bne_eq_false_iff_eq.mpr c87
                clear c87
                by_cases c88 : t172.toList = (rdOf ByteArray.empty y165 (ji6)).toList
                ·rw [if_pos c88] at H
                 have c88b0 : (t172.toList == (rdOf ByteArray.empty y165 (ji6)).toList) = true := beq_iff_eq.mpr c88
                 have c88b1 : (t172.toList != (rdOf ByteArray.empty y165 (ji6)).toList) = false := bne_eq_false_iff_eq.mpr c88
                 clear c88
                 by_cases c89 : t173 = true
                 ·subst c89
                  have H1 : (if t175 = true then (some false) else ((url_Start.f ((x9_2 ++ (⟨#[58]⟩ : ByteArray)) ++ a2)).bind fun t177 => (some ((t177.toList == ([35, 90, 103, 111, 116, 109, 112, 108, 90] : List UInt8)) == (!true))))) = some r := by rw [if_pos rfl] at H; exact H
                  clear H
                  have H := H1
                  clear H1
                  by_cases c90 : t175 = true
                  ·subst c90
                   have H1 : (some false) = some r := by rw [if_pos rfl] at H; exact H
                   clear H
                   have H := H1
                   clear H1
                   obtain rfl := Option.some.inj H
                   go_wp2_with (first | ((with_reducible refine gate_callee (f := 11) rfl ?_); refine goesL_ (some 93) rfl rfl Tryd.func11 (by kernel_rfl) rfl #[.string ((x9_2 ++ (⟨#[58]⟩ : ByteArray)) ++ a2)] rfl (by (try simp only [List.map_toArray, List.map_cons, List.map_nil]); first | done | rfl | (simp only [List.length_drop, List.length_take]; rfl)) ?_; (with_reducible refine (url_Scheme.calls ((x9_2 ++ (⟨#[58]⟩ : ByteArray)) ++ a2) t172 true _ A69.out).mono ?_); rintro e w91 ⟨rfl, hb⟩; refine ⟨_, rfl, ?_⟩; have n0_ := Aside0.mk (below_step (by repeat (first | (with_reducible first | exact HB.out | apply below_alloc | apply pw_below_drewN | apply below_drew1) | exact HB.out)) hb); clear HB; have HB := n0_; clear n0_; (try clear hb); (try clear hb2); (try clear hk); (try clear hi)) | ((with_reducible refine gate_callee (f := 11) rfl ?_); refine goesL_ (some 101) rfl rfl Tryd.func11 (by kernel_rfl) rfl #[.string ((x9_2 ++ (⟨#[47, 58]⟩ : ByteArray)) ++ a2)] rfl (by (try simp only [List.map_toArray, List.map_cons, List.map_nil]); first | done | rfl | (simp only [List.length_drop, List.length_take]; rfl)) ?_; (with_reducible refine (url_Scheme.calls ((x9_2 ++ (⟨#[47, 58]⟩ : ByteArray)) ++ a2) t174 true _ A72.out).mono ?_); rintro e w92 ⟨rfl, hb⟩; refine ⟨_, rfl, ?_⟩; have n0_ := Aside0.mk (below_step (by repeat (first | (with_reducible first | exact HB.out | apply below_alloc | apply pw_below_drewN | apply below_drew1) | exact HB.out)) hb); clear HB; have HB := n0_; clear n0_; (try clear hb); (try clear hb2); (try clear hk); (try clear hi)))
                   go_ret
                   exact ⟨by first | rfl | (simp [errW_none, errW_some] <;> rfl) | (simp only [← hji6]; first | rfl | (simp [errW_none, errW_some] <;> rfl)) | (simp [*, errW_none, errW_some] <;> rfl) | (rw [ne_nil_not]; rfl), by repeat (first | (with_reducible first | exact HB.out | apply below_alloc | apply pw_below_drewN | apply below_drew1) | exact HB.out)⟩
                  ·replace c90 := Bool.eq_false_iff.mpr c90
                   subst c90
                   have H1 : ((url_Start.f ((x9_2 ++ (⟨#[58]⟩ : ByteArray)) ++ a2)).bind fun t177 => (some ((t177.toList == ([35, 90, 103, 111, 116, 109, 112, 108, 90] : List UInt8)) == (!true)))) = some r := by rw [if_neg (show ¬ (false = true) by decide)] at H; exact H
                   clear H
                   have H := H1
                   clear H1
                   replace H := Option.bind_eq_some_iff.mp H
                   obtain ⟨t177, A930, H⟩ := H
                   replace H : (some ((t177.toList == ([35, 90, 103, 111, 116, 109, 112, 108, 90] : List UInt8)) == (!true))) = some r := H
                   have A93 := Aside0.mk A930
                   clear A930
                   obtain rfl := Option.some.inj H
                   go_wp2_with (first | ((with_reducible refine gate_callee (f := 11) rfl ?_); refine goesL_ (some 93) rfl rfl Tryd.func11 (by kernel_rfl) rfl #[.string ((x9_2 ++ (⟨#[58]⟩ : ByteArray)) ++ a2)] rfl (by (try simp only [List.map_toArray, List.map_cons, List.map_nil]); first | done | rfl | (simp only [List.length_drop, List.length_take]; rfl)) ?_; (with_reducible refine (url_Scheme.calls ((x9_2 ++ (⟨#[58]⟩ : ByteArray)) ++ a2) t172 true _ A69.out).mono ?_); rintro e w94 ⟨rfl, hb⟩; refine ⟨_, rfl, ?_⟩; have n0_ := Aside0.mk (below_step (by repeat (first | (with_reducible first | exact HB.out | apply below_alloc | apply pw_below_drewN | apply below_drew1) | exact HB.out)) hb); clear HB; have HB := n0_; clear n0_; (try clear hb); (try clear hb2); (try clear hk); (try clear hi)) | ((with_reducible refine gate_callee (f := 11) rfl ?_); refine goesL_ (some 101) rfl rfl Tryd.func11 (by kernel_rfl) rfl #[.string ((x9_2 ++ (⟨#[47, 58]⟩ : ByteArray)) ++ a2)] rfl (by (try simp only [List.map_toArray, List.map_cons, List.map_nil]); first | done | rfl | (simp only [List.length_drop, List.length_take]; rfl)) ?_; (with_reducible refine (url_Scheme.calls ((x9_2 ++ (⟨#[47, 58]⟩ : ByteArray)) ++ a2) t174 false _ A72.out).mono ?_); rintro e w95 ⟨rfl, hb⟩; refine ⟨_, rfl, ?_⟩; have n0_ := Aside0.mk (below_step (by repeat (first | (with_reducible first | exact HB.out | apply below_alloc | apply pw_below_drewN | apply below_drew1) | exact HB.out)) hb); clear HB; have HB := n0_; clear n0_; (try clear hb); (try clear hb2); (try clear hk); (try clear hi)) | (go_at_call 9; (with_reducible refine (url_Start.calls ((x9_2 ++ (⟨#[58]⟩ : ByteArray)) ++ a2) t177 _ (tabs_below HT.out (by repeat (first | (with_reducible first | exact HB.out | apply below_alloc | apply pw_below_drewN | apply below_drew1) | exact HB.out))) A93.out).mono ?_); rintro e w96 ⟨rfl, hb⟩; have n0_ := Aside0.mk (below_step (by repeat (first | (with_reducible first | exact HB.out | apply below_alloc | apply pw_below_drewN | apply below_drew1) | exact HB.out)) hb); clear HB; have HB := n0_; clear n0_; (try clear hb); (try clear hb2); (try clear hk); (try clear hi)))
                   go_ret
                   exact ⟨by first | rfl | (simp [errW_none, errW_some] <;> rfl) | (simp only [← hji6]; first | rfl | (simp [errW_none, errW_some] <;> rfl)) | (simp [*, errW_none, errW_some] <;> rfl) | (rw [ne_nil_not]; rfl), by repeat (first | (with_reducible first | exact HB.out | apply below_alloc | apply pw_below_drewN | apply below_drew1) | exact HB.out)⟩
                 ·replace c89 := Bool.eq_false_iff.mpr c89
                  subst c89
                  have H1 : (some false) = some r := by rw [if_neg (show ¬ (false = true) by decide)] at H; exact H
                  clear H
                  have H := H1
                  clear H1
                  obtain rfl := Option.some.inj H
                  go_wp2_with (first | ((with_reducible refine gate_callee (f := 11) rfl ?_); refine goesL_ (some 93) rfl rfl Tryd.func11 (by kernel_rfl) rfl #[.string ((x9_2 ++ (⟨#[58]⟩ : ByteArray)) ++ a2)] rfl (by (try simp only [List.map_toArray, List.map_cons, List.map_nil]); first | done | rfl | (simp only [List.length_drop, List.length_take]; rfl)) ?_; (with_reducible refine (url_Scheme.calls ((x9_2 ++ (⟨#[58]⟩ : ByteArray)) ++ a2) t172 false _ A69.out).mono ?_); rintro e w97 ⟨rfl, hb⟩; refine ⟨_, rfl, ?_⟩; have n0_ := Aside0.mk (below_step (by repeat (first | (with_reducible first | exact HB.out | apply below_alloc | apply pw_below_drewN | apply below_drew1) | exact HB.out)) hb); clear HB; have HB := n0_; clear n0_; (try clear hb); (try clear hb2); (try clear hk); (try clear hi)) | ((with_reducible refine gate_callee (f := 11) rfl ?_); refine goesL_ (some 101) rfl rfl Tryd.func11 (by kernel_rfl) rfl #[.string ((x9_2 ++ (⟨#[47, 58]⟩ : ByteArray)) ++ a2)] rfl (by (try simp only [List.map_toArray, List.map_cons, List.map_nil]); first | done | rfl | (simp only [List.length_drop, List.length_take]; rfl)) ?_; (with_reducible refine (url_Scheme.calls ((x9_2 ++ (⟨#[47, 58]⟩ : ByteArray)) ++ a2) t174 t175 _ A72.out).mono ?_); rintro e w98 ⟨rfl, hb⟩; refine ⟨_, rfl, ?_⟩; have n0_ := Aside0.mk (below_step (by repeat (first | (with_reducible first | exact HB.out | apply below_alloc | apply pw_below_drewN | apply below_drew1) | exact HB.out)) hb); clear HB; have HB := n0_; clear n0_; (try clear hb); (try clear hb2); (try clear hk); (try clear hi)))
                  go_ret
                  exact ⟨by first | rfl | (simp [errW_none, errW_some] <;> rfl) | (simp only [← hji6]; first | rfl | (simp [errW_none, errW_some] <;> rfl)) | (simp [*, errW_none, errW_some] <;> rfl) | (rw [ne_nil_not]; rfl), by repeat (first | (with_reducible first | exact HB.out | apply below_alloc | apply pw_below_drewN | apply below_drew1) | exact HB.out)⟩
                ·rw [if_neg c88] at H
                 have c88b0 : (t172.toList == (rdOf ByteArray.empty y165 (ji6)).toList) = false := beq_eq_false_iff_ne.mpr c88
                 have c88b1 : (t172.toList != (rdOf ByteArray.empty y165 (ji6)).toList) = true := bne_iff_ne.mpr c88
                 obtain rfl := Option.some.inj H
                 go_wp2_with (first | ((with_reducible refine gate_callee (f := 11) rfl ?_); refine goesL_ (some 93) rfl rfl Tryd.func11 (by kernel_rfl) rfl #[.string ((x9_2 ++ (⟨#[58]⟩ : ByteArray)) ++ a2)] rfl (by (try simp only [List.map_toArray, List.map_cons, List.map_nil]); first | done | rfl | (simp only [List.length_drop, List.length_take]; rfl)) ?_; (with_reducible refine (url_Scheme.calls ((x9_2 ++ (⟨#[58]⟩ : ByteArray)) ++ a2) t172 t173 _ A69.out).mono ?_); rintro e w99 ⟨rfl, hb⟩; refine ⟨_, rfl, ?_⟩; have n0_ := Aside0.mk (below_step (by repeat (first | (with_reducible first | exact HB.out | apply below_alloc | apply pw_below_drewN | apply below_drew1) | exact HB.out)) hb); clear HB; have HB := n0_; clear n0_; (try clear hb); (try clear hb2); (try clear hk); (try clear hi)) | ((with_reducible refine gate_callee (f := 11) rfl ?_); refine goesL_ (some 101) rfl rfl Tryd.func11 (by kernel_rfl) rfl #[.string ((x9_2 ++ (⟨#[47, 58]⟩ : ByteArray)) ++ a2)] rfl (by (try simp only [List.map_toArray, List.map_cons, List.map_nil]); first | done | rfl | (simp only [List.length_drop, List.length_take]; rfl)) ?_; (with_reducible refine (url_Scheme.calls ((x9_2 ++ (⟨#[47, 58]⟩ : ByteArray)) ++ a2) t174 t175 _ A72.out).mono ?_); rintro e w100 ⟨rfl, hb⟩; refine ⟨_, rfl, ?_⟩; have n0_ := Aside0.mk (below_step (by repeat (first | (with_reducible first | exact HB.out | apply below_alloc | apply pw_below_drewN | apply below_drew1) | exact HB.out)) hb); clear HB; have HB := n0_; clear n0_; (try clear hb); (try clear hb2); (try clear hk); (try clear hi)))
                 go_ret
                 exact ⟨by first | rfl | (simp [errW_none, errW_some] <;> rfl) | (simp only [← hji6]; first | rfl | (simp [errW_none, errW_some] <;> rfl)) | (simp [*, errW_none, errW_some] <;> rfl) | (rw [ne_nil_not]; rfl), by repeat (first | (with_reducible first | exact HB.out | apply below_alloc | apply pw_below_drewN | apply below_drew1) | exact HB.out)⟩
               ·rw [if_neg c87] at H
                have c87b0 : ((rdOf ByteArray.empty y165 (ji6)).toList == ([104, 116, 116, 112, 115] : List UInt8)) = false := beq_eq_false_iff_ne.mpr c87
                have c87b1 : ((rdOf ByteArray.empty y165 (ji6)).toList != ([104, 116, 116, 112, 115] : List UInt8)) = true := bne_iff_ne.mpr c87
                by_cases c101 : (rdOf ByteArray.empty y165 (ji6)).toList = ([109, 97, 105, 108, 116, 111] : List UInt8)
                ·rw [if_pos c101] at H
                 have c101b0 : ((rdOf ByteArray.empty y165 (ji6)).toList == ([109, 97, 105, 108, 116, 111] : List UInt8)) = true := beq_iff_eq.mpr c101
                 have c101b1 : ((rdOf ByteArray.empty y165 (ji6)).toList != ([109, 97, 105, 108, 116, 111] : List UInt8)) = false := bne_eq_false_iff_eq.mpr c101
                 clear c101
                 by_cases c102 : t172.toList = (rdOf ByteArray.empty y165 (ji6)).toList
                 ·rw [if_pos c102] at H
                  have c102b0 : (t172.toList == (rdOf ByteArray.empty y165 (ji6)).toList) = true := beq_iff_eq.mpr c102
                  have c102b1 : (t172.toList != (rdOf ByteArray.empty y165 (ji6)).toList) = false := bne_eq_false_iff_eq.mpr c102
                  clear c102
                  by_cases c103 : t173 = true
                  ·subst c103
                   have H1 : (if t175 = true then (some false) else ((url_Start.f ((x9_2 ++ (⟨#[58]⟩ : ByteArray)) ++ a2)).bind fun t178 => (some ((t178.toList == ([35, 90, 103, 111, 116, 109, 112, 108, 90] : List UInt8)) == (!true))))) = some r := by rw [if_pos rfl] at H; exact H
                   clear H
                   have H := H1
                   clear H1
                   by_cases c104 : t175 = true
                   ·subst c104
                    have H1 : (some false) = some r := by rw [if_pos rfl] at H; exact H
                    clear H
                    have H := H1
                    clear H1
                    obtain rfl := Option.some.inj H
                    go_wp2_with (first | ((with_reducible refine gate_callee (f := 11) rfl ?_); refine goesL_ (some 93) rfl rfl Tryd.func11 (by kernel_rfl) rfl #[.string ((x9_2 ++ (⟨#[58]⟩ : ByteArray)) ++ a2)] rfl (by (try simp only [List.map_toArray, List.map_cons, List.map_nil]); first | done | rfl | (simp only [List.length_drop, List.length_take]; rfl)) ?_; (with_reducible refine (url_Scheme.calls ((x9_2 ++ (⟨#[58]⟩ : ByteArray)) ++ a2) t172 true _ A69.out).mono ?_); rintro e w105 ⟨rfl, hb⟩; refine ⟨_, rfl, ?_⟩; have n0_ := Aside0.mk (below_step (by repeat (first | (with_reducible first | exact HB.out | apply below_alloc | apply pw_below_drewN | apply below_drew1) | exact HB.out)) hb); clear HB; have HB := n0_; clear n0_; (try clear hb); (try clear hb2); (try clear hk); (try clear hi)) | ((with_reducible refine gate_callee (f := 11) rfl ?_); refine goesL_ (some 101) rfl rfl Tryd.func11 (by kernel_rfl) rfl #[.string ((x9_2 ++ (⟨#[47, 58]⟩ : ByteArray)) ++ a2)] rfl (by (try simp only [List.map_toArray, List.map_cons, List.map_nil]); first | done | rfl | (simp only [List.length_drop, List.length_take]; rfl)) ?_; (with_reducible refine (url_Scheme.calls ((x9_2 ++ (⟨#[47, 58]⟩ : ByteArray)) ++ a2) t174 true _ A72.out).mono ?_); rintro e w106 ⟨rfl, hb⟩; refine ⟨_, rfl, ?_⟩; have n0_ := Aside0.mk (below_step (by repeat (first | (with_reducible first | exact HB.out | apply below_alloc | apply pw_below_drewN | apply below_drew1) | exact HB.out)) hb); clear HB; have HB := n0_; clear n0_; (try clear hb); (try clear hb2); (try clear hk); (try clear hi)))
                    go_ret
                    exact ⟨by first | rfl | (simp [errW_none, errW_some] <;> rfl) | (simp only [← hji6]; first | rfl | (simp [errW_none, errW_some] <;> rfl)) | (simp [*, errW_none, errW_some] <;> rfl) | (rw [ne_nil_not]; rfl), by repeat (first | (with_reducible first | exact HB.out | apply below_alloc | apply pw_below_drewN | apply below_drew1) | exact HB.out)⟩
                   ·replace c104 := Bool.eq_false_iff.mpr c104
                    subst c104
                    have H1 : ((url_Start.f ((x9_2 ++ (⟨#[58]⟩ : ByteArray)) ++ a2)).bind fun t178 => (some ((t178.toList == ([35, 90, 103, 111, 116, 109, 112, 108, 90] : List UInt8)) == (!true)))) = some r := by rw [if_neg (show ¬ (false = true) by decide)] at H; exact H
                    clear H
                    have H := H1
                    clear H1
                    replace H := Option.bind_eq_some_iff.mp H
                    obtain ⟨t178, A1070, H⟩ := H
                    replace H : (some ((t178.toList == ([35, 90, 103, 111, 116, 109, 112, 108, 90] : List UInt8)) == (!true))) = some r := H
                    have A107 := Aside0.mk A1070
                    clear A1070
                    obtain rfl := Option.some.inj H
                    go_wp2_with (first | ((with_reducible refine gate_callee (f := 11) rfl ?_); refine goesL_ (some 93) rfl rfl Tryd.func11 (by kernel_rfl) rfl #[.string ((x9_2 ++ (⟨#[58]⟩ : ByteArray)) ++ a2)] rfl (by (try simp only [List.map_toArray, List.map_cons, List.map_nil]); first | done | rfl | (simp only [List.length_drop, List.length_take]; rfl)) ?_; (with_reducible refine (url_Scheme.calls ((x9_2 ++ (⟨#[58]⟩ : ByteArray)) ++ a2) t172 true _ A69.out).mono ?_); rintro e w108 ⟨rfl, hb⟩; refine ⟨_, rfl, ?_⟩; have n0_ := Aside0.mk (below_step (by repeat (first | (with_reducible first | exact HB.out | apply below_alloc | apply pw_below_drewN | apply below_drew1) | exact HB.out)) hb); clear HB; have HB := n0_; clear n0_; (try clear hb); (try clear hb2); (try clear hk); (try clear hi)) | ((with_reducible refine gate_callee (f := 11) rfl ?_); refine goesL_ (some 101) rfl rfl Tryd.func11 (by kernel_rfl) rfl #[.string ((x9_2 ++ (⟨#[47, 58]⟩ : ByteArray)) ++ a2)] rfl (by (try simp only [List.map_toArray, List.map_cons, List.map_nil]); first | done | rfl | (simp only [List.length_drop, List.length_take]; rfl)) ?_; (with_reducible refine (url_Scheme.calls ((x9_2 ++ (⟨#[47, 58]⟩ : ByteArray)) ++ a2) t174 false _ A72.out).mono ?_); rintro e w109 ⟨rfl, hb⟩; refine ⟨_, rfl, ?_⟩; have n0_ := Aside0.mk (below_step (by repeat (first | (with_reducible first | exact HB.out | apply below_alloc | apply pw_below_drewN | apply below_drew1) | exact HB.out)) hb); clear HB; have HB := n0_; clear n0_; (try clear hb); (try clear hb2); (try clear hk); (try clear hi)) | (go_at_call 9; (with_reducible refine (url_Start.calls ((x9_2 ++ (⟨#[58]⟩ : ByteArray)) ++ a2) t178 _ (tabs_below HT.out (by repeat (first | (with_reducible first | exact HB.out | apply below_alloc | apply pw_below_drewN | apply below_drew1) | exact HB.out))) A107.out).mono ?_); rintro e w110 ⟨rfl, hb⟩; have n0_ := Aside0.mk (below_step (by repeat (first | (with_reducible first | exact HB.out | apply below_alloc | apply pw_below_drewN | apply below_drew1) | exact HB.out)) hb); clear HB; have HB := n0_; clear n0_; (try clear hb); (try clear hb2); (try clear hk); (try clear hi)))
                    go_ret
                    exact ⟨by first | rfl | (simp [errW_none, errW_some] <;> rfl) | (simp only [← hji6]; first | rfl | (simp [errW_none, errW_some] <;> rfl)) | (simp [*, errW_none, errW_some] <;> rfl) | (rw [ne_nil_not]; rfl), by repeat (first | (with_reducible first | exact HB.out | apply below_alloc | apply pw_below_drewN | apply below_drew1) | exact HB.out)⟩
                  ·replace c103 := Bool.eq_false_iff.mpr c103
                   subst c103
                   have H1 : (some false) = some r := by rw [if_neg (show ¬ (false = true) by decide)] at H; exact H
                   clear H
                   have H := H1
                   clear H1
                   obtain rfl := Option.some.inj H
                   go_wp2_with (first | ((with_reducible refine gate_callee (f := 11) rfl ?_); refine goesL_ (some 93) rfl rfl Tryd.func11 (by kernel_rfl) rfl #[.string ((x9_2 ++ (⟨#[58]⟩ : ByteArray)) ++ a2)] rfl (by (try simp only [List.map_toArray, List.map_cons, List.map_nil]); first | done | rfl | (simp only [List.length_drop, List.length_take]; rfl)) ?_; (with_reducible refine (url_Scheme.calls ((x9_2 ++ (⟨#[58]⟩ : ByteArray)) ++ a2) t172 false _ A69.out).mono ?_); rintro e w111 ⟨rfl, hb⟩; refine ⟨_, rfl, ?_⟩; have n0_ := Aside0.mk (below_step (by repeat (first | (with_reducible first | exact HB.out | apply below_alloc | apply pw_below_drewN | apply below_drew1) | exact HB.out)) hb); clear HB; have HB := n0_; clear n0_; (try clear hb); (try clear hb2); (try clear hk); (try clear hi)) | ((with_reducible refine gate_callee (f := 11) rfl ?_); refine goesL_ (some 101) rfl rfl Tryd.func11 (by kernel_rfl) rfl #[.string ((x9_2 ++ (⟨#[47, 58]⟩ : ByteArray)) ++ a2)] rfl (by (try simp only [List.map_toArray, List.map_cons, List.map_nil]); first | done | rfl | (simp only [List.length_drop, List.length_take]; rfl)) ?_; (with_reducible refine (url_Scheme.calls ((x9_2 ++ (⟨#[47, 58]⟩ : ByteArray)) ++ a2) t174 t175 _ A72.out).mono ?_); rintro e w112 ⟨rfl, hb⟩; refine ⟨_, rfl, ?_⟩; have n0_ := Aside0.mk (below_step (by repeat (first | (with_reducible first | exact HB.out | apply below_alloc | apply pw_below_drewN | apply below_drew1) | exact HB.out)) hb); clear HB; have HB := n0_; clear n0_; (try clear hb); (try clear hb2); (try clear hk); (try clear hi)))
                   go_ret
                   exact ⟨by first | rfl | (simp [errW_none, errW_some] <;> rfl) | (simp only [← hji6]; first | rfl | (simp [errW_none, errW_some] <;> rfl)) | (simp [*, errW_none, errW_some] <;> rfl) | (rw [ne_nil_not]; rfl), by repeat (first | (with_reducible first | exact HB.out | apply below_alloc | apply pw_below_drewN | apply below_drew1) | exact HB.out)⟩
                 ·rw [if_neg c102] at H
                  have c102b0 : (t172.toList == (rdOf ByteArray.empty y165 (ji6)).toList) = false := beq_eq_false_iff_ne.mpr c102
                  have c102b1 : (t172.toList != (rdOf ByteArray.empty y165 (ji6)).toList) = true := bne_iff_ne.mpr c102
                  obtain rfl := Option.some.inj H
                  go_wp2_with (first | ((with_reducible refine gate_callee (f := 11) rfl ?_); refine goesL_ (some 93) rfl rfl Tryd.func11 (by kernel_rfl) rfl #[.string ((x9_2 ++ (⟨#[58]⟩ : ByteArray)) ++ a2)] rfl (by (try simp only [List.map_toArray, List.map_cons, List.map_nil]); first | done | rfl | (simp only [List.length_drop, List.length_take]; rfl)) ?_; (with_reducible refine (url_Scheme.calls ((x9_2 ++ (⟨#[58]⟩ : ByteArray)) ++ a2) t172 t173 _ A69.out).mono ?_); rintro e w113 ⟨rfl, hb⟩; refine ⟨_, rfl, ?_⟩; have n0_ := Aside0.mk (below_step (by repeat (first | (with_reducible first | exact HB.out | apply below_alloc | apply pw_below_drewN | apply below_drew1) | exact HB.out)) hb); clear HB; have HB := n0_; clear n0_; (try clear hb); (try clear hb2); (try clear hk); (try clear hi)) | ((with_reducible refine gate_callee (f := 11) rfl ?_); refine goesL_ (some 101) rfl rfl Tryd.func11 (by kernel_rfl) rfl #[.string ((x9_2 ++ (⟨#[47, 58]⟩ : ByteArray)) ++ a2)] rfl (by (try simp only [List.map_toArray, List.map_cons, List.map_nil]); first | done | rfl | (simp only [List.length_drop, List.length_take]; rfl)) ?_; (with_reducible refine (url_Scheme.calls ((x9_2 ++ (⟨#[47, 58]⟩ : ByteArray)) ++ a2) t174 t175 _ A72.out).mono ?_); rintro e w114 ⟨rfl, hb⟩; refine ⟨_, rfl, ?_⟩; have n0_ := Aside0.mk (below_step (by repeat (first | (with_reducible first | exact HB.out | apply below_alloc | apply pw_below_drewN | apply below_drew1) | exact HB.out)) hb); clear HB; have HB := n0_; clear n0_; (try clear hb); (try clear hb2); (try clear hk); (try clear hi)))
                  go_ret
                  exact ⟨by first | rfl | (simp [errW_none, errW_some] <;> rfl) | (simp only [← hji6]; first | rfl | (simp [errW_none, errW_some] <;> rfl)) | (simp [*, errW_none, errW_some] <;> rfl) | (rw [ne_nil_not]; rfl), by repeat (first | (with_reducible first | exact HB.out | apply below_alloc | apply pw_below_drewN | apply below_drew1) | exact HB.out)⟩
                ·rw [if_neg c101] at H
                 have c101b0 : ((rdOf ByteArray.empty y165 (ji6)).toList == ([109, 97, 105, 108, 116, 111] : List UInt8)) = false := beq_eq_false_iff_ne.mpr c101
                 have c101b1 : ((rdOf ByteArray.empty y165 (ji6)).toList != ([109, 97, 105, 108, 116, 111] : List UInt8)) = true := bne_iff_ne.mpr c101
                 by_cases c115 : t172.toList = (rdOf ByteArray.empty y165 (ji6)).toList
                 ·rw [if_pos c115] at H
                  have c115b0 : (t172.toList == (rdOf ByteArray.empty y165 (ji6)).toList) = true := beq_iff_eq.mpr c115
                  have c115b1 : (t172.toList != (rdOf ByteArray.empty y165 (ji6)).toList) = false := bne_eq_false_iff_eq.mpr c115
                  clear c115
                  by_cases c116 : t173 = true
                  ·subst c116
                   have H1 : (if t175 = true then (some false) else ((url_Start.f ((x9_2 ++ (⟨#[58]⟩ : ByteArray)) ++ a2)).bind fun t179 => (some ((t179.toList == ([35, 90, 103, 111, 116, 109, 112, 108, 90] : List UInt8)) == (!((rdOf ByteArray.empty y165 (ji6)).toList == ([116, 101, 108] : List UInt8))))))) = some r := by rw [if_pos rfl] at H; exact H
                   clear H
                   have H := H1
                   clear H1
                   by_cases c117 : t175 = true
                   ·subst c117
                    have H1 : (some false) = some r := by rw [if_pos rfl] at H; exact H
                    clear H
                    have H := H1
                    clear H1
                    obtain rfl := Option.some.inj H
                    go_wp2_with (first | ((with_reducible refine gate_callee (f := 11) rfl ?_); refine goesL_ (some 93) rfl rfl Tryd.func11 (by kernel_rfl) rfl #[.string ((x9_2 ++ (⟨#[58]⟩ : ByteArray)) ++ a2)] rfl (by (try simp only [List.map_toArray, List.map_cons, List.map_nil]); first | done | rfl | (simp only [List.length_drop, List.length_take]; rfl)) ?_; (with_reducible refine (url_Scheme.calls ((x9_2 ++ (⟨#[58]⟩ : ByteArray)) ++ a2) t172 true _ A69.out).mono ?_); rintro e w118 ⟨rfl, hb⟩; refine ⟨_, rfl, ?_⟩; have n0_ := Aside0.mk (below_step (by repeat (first | (with_reducible first | exact HB.out | apply below_alloc | apply pw_below_drewN | apply below_drew1) | exact HB.out)) hb); clear HB; have HB := n0_; clear n0_; (try clear hb); (try clear hb2); (try clear hk); (try clear hi)) | ((with_reducible refine gate_callee (f := 11) rfl ?_); refine goesL_ (some 101) rfl rfl Tryd.func11 (by kernel_rfl) rfl #[.string ((x9_2 ++ (⟨#[47, 58]⟩ : ByteArray)) ++ a2)] rfl (by (try simp only [List.map_toArray, List.map_cons, List.map_nil]); first | done | rfl | (simp only [List.length_drop, List.length_take]; rfl)) ?_; (with_reducible refine (url_Scheme.calls ((x9_2 ++ (⟨#[47, 58]⟩ : ByteArray)) ++ a2) t174 true _ A72.out).mono ?_); rintro e w119 ⟨rfl, hb⟩; refine ⟨_, rfl, ?_⟩; have n0_ := Aside0.mk (below_step (by repeat (first | (with_reducible first | exact HB.out | apply below_alloc | apply pw_below_drewN | apply below_drew1) | exact HB.out)) hb); clear HB; have HB := n0_; clear n0_; (try clear hb); (try clear hb2); (try clear hk); (try clear hi)))
                    go_ret
                    exact ⟨by first | rfl | (simp [errW_none, errW_some] <;> rfl) | (simp only [← hji6]; first | rfl | (simp [errW_none, errW_some] <;> rfl)) | (simp [*, errW_none, errW_some] <;> rfl) | (rw [ne_nil_not]; rfl), by repeat (first | (with_reducible first | exact HB.out | apply below_alloc | apply pw_below_drewN | apply below_drew1) | exact HB.out)⟩
                   ·replace c117 := Bool.eq_false_iff.mpr c117
                    subst c117
                    have H1 : ((url_Start.f ((x9_2 ++ (⟨#[58]⟩ : ByteArray)) ++ a2)).bind fun t179 => (some ((t179.toList == ([35, 90, 103, 111, 116, 109, 112, 108, 90] : List UInt8)) == (!((rdOf ByteArray.empty y165 (ji6)).toList == ([116, 101, 108] : List UInt8)))))) = some r := by rw [if_neg (show ¬ (false = true) by decide)] at H; exact H
                    clear H
                    have H := H1
                    clear H1
                    replace H := Option.bind_eq_some_iff.mp H
                    obtain ⟨t179, A1200, H⟩ := H
                    replace H : (some ((t179.toList == ([35, 90, 103, 111, 116, 109, 112, 108, 90] : List UInt8)) == (!((rdOf ByteArray.empty y165 (ji6)).toList == ([116, 101, 108] : List UInt8))))) = some r := H
                    have A120 := Aside0.mk A1200
                    clear A1200
                    obtain rfl := Option.some.inj H
                    go_wp2_with (first | ((with_reducible refine gate_callee (f := 11) rfl ?_); refine goesL_ (some 93) rfl rfl Tryd.func11 (by kernel_rfl) rfl #[.string ((x9_2 ++ (⟨#[58]⟩ : ByteArray)) ++ a2)] rfl (by (try simp only [List.map_toArray, List.map_cons, List.map_nil]); first | done | rfl | (simp only [List.length_drop, List.length_take]; rfl)) ?_; (with_reducible refine (url_Scheme.calls ((x9_2 ++ (⟨#[58]⟩ : ByteArray)) ++ a2) t172 true _ A69.out).mono ?_); rintro e w121 ⟨rfl, hb⟩; refine ⟨_, rfl, ?_⟩; have n0_ := Aside0.mk (below_step (by repeat (first | (with_reducible first | exact HB.out | apply below_alloc | apply pw_below_drewN | apply below_drew1) | exact HB.out)) hb); clear HB; have HB := n0_; clear n0_; (try clear hb); (try clear hb2); (try clear hk); (try clear hi)) | ((with_reducible refine gate_callee (f := 11) rfl ?_); refine goesL_ (some 101) rfl rfl Tryd.func11 (by kernel_rfl) rfl #[.string ((x9_2 ++ (⟨#[47, 58]⟩ : ByteArray)) ++ a2)] rfl (by (try simp only [List.map_toArray, List.map_cons, List.map_nil]); first | done | rfl | (simp only [List.length_drop, List.length_take]; rfl)) ?_; (with_reducible refine (url_Scheme.calls ((x9_2 ++ (⟨#[47, 58]⟩ : ByteArray)) ++ a2) t174 false _ A72.out).mono ?_); rintro e w122 ⟨rfl, hb⟩; refine ⟨_, rfl, ?_⟩; have n0_ := Aside0.mk (below_step (by repeat (first | (with_reducible first | exact HB.out | apply below_alloc | apply pw_below_drewN | apply below_drew1) | exact HB.out)) hb); clear HB; have HB := n0_; clear n0_; (try clear hb); (try clear hb2); (try clear hk); (try clear hi)) | (go_at_call 9; (with_reducible refine (url_Start.calls ((x9_2 ++ (⟨#[58]⟩ : ByteArray)) ++ a2) t179 _ (tabs_below HT.out (by repeat (first | (with_reducible first | exact HB.out | apply below_alloc | apply pw_below_drewN | apply below_drew1) | exact HB.out))) A120.out).mono ?_); rintro e w123 ⟨rfl, hb⟩; have n0_ := Aside0.mk (below_step (by repeat (first | (with_reducible first | exact HB.out | apply below_alloc | apply pw_below_drewN | apply below_drew1) | exact HB.out)) hb); clear HB; have HB := n0_; clear n0_; (try clear hb); (try clear hb2); (try clear hk); (try clear hi)))
                    go_ret
                    exact ⟨by first | rfl | (simp [errW_none, errW_some] <;> rfl) | (simp only [← hji6]; first | rfl | (simp [errW_none, errW_some] <;> rfl)) | (simp [*, errW_none, errW_some] <;> rfl) | (rw [ne_nil_not]; rfl), by repeat (first | (with_reducible first | exact HB.out | apply below_alloc | apply pw_below_drewN | apply below_drew1) | exact HB.out)⟩
                  ·replace c116 := Bool.eq_false_iff.mpr c116
                   subst c116
                   have H1 : (some false) = some r := by rw [if_neg (show ¬ (false = true) by decide)] at H; exact H
                   clear H
                   have H := H1
                   clear H1
                   obtain rfl := Option.some.inj H
                   go_wp2_with (first | ((with_reducible refine gate_callee (f := 11) rfl ?_); refine goesL_ (some 93) rfl rfl Tryd.func11 (by kernel_rfl) rfl #[.string ((x9_2 ++ (⟨#[58]⟩ : ByteArray)) ++ a2)] rfl (by (try simp only [List.map_toArray, List.map_cons, List.map_nil]); first | done | rfl | (simp only [List.length_drop, List.length_take]; rfl)) ?_; (with_reducible refine (url_Scheme.calls ((x9_2 ++ (⟨#[58]⟩ : ByteArray)) ++ a2) t172 false _ A69.out).mono ?_); rintro e w124 ⟨rfl, hb⟩; refine ⟨_, rfl, ?_⟩; have n0_ := Aside0.mk (below_step (by repeat (first | (with_reducible first | exact HB.out | apply below_alloc | apply pw_below_drewN | apply below_drew1) | exact HB.out)) hb); clear HB; have HB := n0_; clear n0_; (try clear hb); (try clear hb2); (try clear hk); (try clear hi)) | ((with_reducible refine gate_callee (f := 11) rfl ?_); refine goesL_ (some 101) rfl rfl Tryd.func11 (by kernel_rfl) rfl #[.string ((x9_2 ++ (⟨#[47, 58]⟩ : ByteArray)) ++ a2)] rfl (by (try simp only [List.map_toArray, List.map_cons, List.map_nil]); first | done | rfl | (simp only [List.length_drop, List.length_take]; rfl)) ?_; (with_reducible refine (url_Scheme.calls ((x9_2 ++ (⟨#[47, 58]⟩ : ByteArray)) ++ a2) t174 t175 _ A72.out).mono ?_); rintro e w125 ⟨rfl, hb⟩; refine ⟨_, rfl, ?_⟩; have n0_ := Aside0.mk (below_step (by repeat (first | (with_reducible first | exact HB.out | apply below_alloc | apply pw_below_drewN | apply below_drew1) | exact HB.out)) hb); clear HB; have HB := n0_; clear n0_; (try clear hb); (try clear hb2); (try clear hk); (try clear hi)))
                   go_ret
                   exact ⟨by first | rfl | (simp [errW_none, errW_some] <;> rfl) | (simp only [← hji6]; first | rfl | (simp [errW_none, errW_some] <;> rfl)) | (simp [*, errW_none, errW_some] <;> rfl) | (rw [ne_nil_not]; rfl), by repeat (first | (with_reducible first | exact HB.out | apply below_alloc | apply pw_below_drewN | apply below_drew1) | exact HB.out)⟩
                 ·rw [if_neg c115] at H
                  have c115b0 : (t172.toList == (rdOf ByteArray.empty y165 (ji6)).toList) = false := beq_eq_false_iff_ne.mpr c115
                  have c115b1 : (t172.toList != (rdOf ByteArray.empty y165 (ji6)).toList) = true := bne_iff_ne.mpr c115
                  obtain rfl := Option.some.inj H
                  go_wp2_with (first | ((with_reducible refine gate_callee (f := 11) rfl ?_); refine goesL_ (some 93) rfl rfl Tryd.func11 (by kernel_rfl) rfl #[.string ((x9_2 ++ (⟨#[58]⟩ : ByteArray)) ++ a2)] rfl (by (try simp only [List.map_toArray, List.map_cons, List.map_nil]); first | done | rfl | (simp only [List.length_drop, List.length_take]; rfl)) ?_; (with_reducible refine (url_Scheme.calls ((x9_2 ++ (⟨#[58]⟩ : ByteArray)) ++ a2) t172 t173 _ A69.out).mono ?_); rintro e w126 ⟨rfl, hb⟩; refine ⟨_, rfl, ?_⟩; have n0_ := Aside0.mk (below_step (by repeat (first | (with_reducible first | exact HB.out | apply below_alloc | apply pw_below_drewN | apply below_drew1) | exact HB.out)) hb); clear HB; have HB := n0_; clear n0_; (try clear hb); (try clear hb2); (try clear hk); (try clear hi)) | ((with_reducible refine gate_callee (f := 11) rfl ?_); refine goesL_ (some 101) rfl rfl Tryd.func11 (by kernel_rfl) rfl #[.string ((x9_2 ++ (⟨#[47, 58]⟩ : ByteArray)) ++ a2)] rfl (by (try simp only [List.map_toArray, List.map_cons, List.map_nil]); first | done | rfl | (simp only [List.length_drop, List.length_take]; rfl)) ?_; (with_reducible refine (url_Scheme.calls ((x9_2 ++ (⟨#[47, 58]⟩ : ByteArray)) ++ a2) t174 t175 _ A72.out).mono ?_); rintro e w127 ⟨rfl, hb⟩; refine ⟨_, rfl, ?_⟩; have n0_ := Aside0.mk (below_step (by repeat (first | (with_reducible first | exact HB.out | apply below_alloc | apply pw_below_drewN | apply below_drew1) | exact HB.out)) hb); clear HB; have HB := n0_; clear n0_; (try clear hb); (try clear hb2); (try clear hk); (try clear hi)))
                  go_ret
                  exact ⟨by first | rfl | (simp [errW_none, errW_some] <;> rfl) | (simp only [← hji6]; first | rfl | (simp [errW_none, errW_some] <;> rfl)) | (simp [*, errW_none, errW_some] <;> rfl) | (rw [ne_nil_not]; rfl), by repeat (first | (with_reducible first | exact HB.out | apply below_alloc | apply pw_below_drewN | apply below_drew1) | exact HB.out)⟩
             ·rw [if_neg c71] at H
              exact absurd H (by simp)
            ·rw [if_neg c70] at H
             exact absurd H (by simp)
           ·rw [if_neg c68] at H
            exact absurd H (by simp)
          ·rw [if_neg c67] at H
           exact absurd H (by simp)
   ·rw [if_neg c8] at H
    exact absurd H (by simp)
  ·rw [if_neg c7] at H
   exact absurd H (by simp)
 ·replace c5 := Bool.eq_false_iff.mpr c5
  subst c5
  have H1 : (some false) = some r := by rw [if_neg (show ¬ (false = true) by decide)] at H; exact H
  clear H
  have H := H1
  clear H1
  obtain rfl := Option.some.inj H
  go_enter Tryd.func5, Tryd.ntmps5
  go_wp2_with (first | ((with_reducible refine gate_callee (f := 8) rfl ?_); refine goesL_ (some 18) rfl rfl Tryd.func8 (by kernel_rfl) rfl #[] rfl (by (try simp only [List.map_toArray, List.map_cons, List.map_nil]); first | done | rfl | (simp only [List.length_drop, List.length_take]; rfl)) ?_; (with_reducible refine (stolelaw9_awake.calls  false _ (tabs_below HT.out (by repeat (first | (with_reducible first | exact HB.out | apply below_alloc | apply pw_below_drewN | apply below_drew1) | exact HB.out))) A4.out).mono ?_); rintro e w128 ⟨rfl, hb⟩; refine ⟨_, rfl, ?_⟩; have n0_ := Aside0.mk (below_step (by repeat (first | (with_reducible first | exact HB.out | apply below_alloc | apply pw_below_drewN | apply below_drew1) | exact HB.out)) hb); clear HB; have HB := n0_; clear n0_; (try clear hb); (try clear hb2); (try clear hk); (try clear hi)))
  go_ret
  exact ⟨by first | rfl | (simp [errW_none, errW_some] <;> rfl) | (simp [*, errW_none, errW_some] <;> rfl) | (rw [ne_nil_not]; rfl), by repeat (first | (with_reducible first | exact HB.out | apply below_alloc | apply pw_below_drewN | apply below_drew1) | exact HB.out)⟩

/-- THE ONE PURE STATEMENT of stolelaw9_UrlSchemes: yours. -/
def stolelaw9_UrlSchemes.Pure : Prop := ∀ (a0 : Int) (a1 : Int) (a2 : ByteArray), (Lit.int .i64 a0).wf = true → (Lit.int .i64 a1).wf = true → a2.size ≤ 140737488351232 → ∃ k, stolelaw9_UrlSchemes.f k a0 a1 a2 = some true
theorem stolelaw9_UrlSchemes.walk (P : stolelaw9_UrlSchemes.Pure) (a0 : Int) (a1 : Int) (a2 : ByteArray) (w : World) (hT : Tabs w) (w0 : (Lit.int .i64 a0).wf = true) (w1 : (Lit.int .i64 a1).wf = true) (w2 : a2.size ≤ 140737488351232) :
  Calls Tryd.prog 5 #[.int .i64 a0, .int .i64 a1, .string a2] w fun e w' => e = .returned (.bool true) ∧ Below w.heap.size w w' := by
 obtain ⟨k, h⟩ := P a0 a1 a2 w0 w1 w2
 refine (stolelaw9_UrlSchemes.calls k a0 a1 a2 true w hT h).mono ?_
 rintro e w' ⟨rfl, hd⟩
 exact ⟨rfl, hd⟩

end Go.Proofs.YtfncppekjgbedaaDoor.XU
