/- Laid by xprint.py, a program of this session over the kit's print: for each Go function one Lean function of the same answers, and the walk that shows it. -/
import Derived.Test.YtfncppekjgbedaaDoorXU0
import Derived.Test.YtfncppekjgbedaaDoorXU1
namespace Go.Proofs.YtfncppekjgbedaaDoor.XU
open Go.RowKit Go.Proofs.YtfncppekjgbedaaDoor.Ext Go.Proofs.YtfncppekjgbedaaDoor.Utf Go.Proofs.YtfncppekjgbedaaDoorW.PrintWords Go.Proofs.YtfncppekjgbedaaDoorW.PrintLast Go.Proofs.YtfncppekjgbedaaDoorW.PrintMore
attribute [local go_sem] max2_int min2_int max_two min_two max_three min_three max_four min_four   -- for this text's walks alone
set_option linter.unusedVariables false
set_option linter.unusedSimpArgs false

/-! ### stolelaw9_UrlSafe: function 3 -/
mutual
def stolelaw9_UrlSafe.j0 : Nat → ByteArray → ByteArray → ByteArray → Bool → Bool → Option (Bool)
 | 0, _, _, _, _, _ => none
 | k + 1, x5, x6, x7, x8, x51 => if x51 = true then (some false) else (stolelaw9_UrlSafe.l0 k x5 x6 x7 x8 0)
def stolelaw9_UrlSafe.l0 : Nat → ByteArray → ByteArray → ByteArray → Bool → Int → Option (Bool)
 | 0, _, _, _, _, _ => none
 | k + 1, x5, x6, x7, x8, x11 => if x11 < (x5.size : Int) then (if 0 ≤ x11 then (if (bt x5 x11) ≤ 32 then (some false) else (if (bt x5 x11) ≥ 127 then (some false) else (if (bt x5 x11) = 34 then (some false) else (if (bt x5 x11) = 39 then (some false) else (if (bt x5 x11) = 60 then (some false) else (if (bt x5 x11) = 62 then (some false) else (stolelaw9_UrlSafe.l0 k x5 x6 x7 x8 (wrap64 (x11 + 1))))))))) else (none)) else (stolelaw9_UrlSafe.l1 k x5 x6 x7 x8 0)
def stolelaw9_UrlSafe.l1 : Nat → ByteArray → ByteArray → ByteArray → Bool → Int → Option (Bool)
 | 0, _, _, _, _, _ => none
 | k + 1, x5, x6, x7, x8, x12 => if x12 < (x6.size : Int) then (if 0 ≤ x12 then (if (bt x6 x12) = 58 then (some false) else (if (bt x6 x12) = 47 then (some false) else (if (bt x6 x12) = 63 then (some false) else (if (bt x6 x12) = 35 then (some false) else (if (bt x6 x12) = 38 then (some false) else (if (bt x6 x12) ≤ 32 then (some false) else (if (bt x6 x12) ≥ 127 then (some false) else (if (bt x6 x12) = 34 then (some false) else (if (bt x6 x12) = 39 then (some false) else (stolelaw9_UrlSafe.l1 k x5 x6 x7 x8 (wrap64 (x12 + 1)))))))))))) else (none)) else (if x5.size + x6.size ≤ 9223372036854775807 then ((url_Scheme.f (x5 ++ x6)).bind fun bt132 => (if bt132.2 = true then (if x8 = true then (some (bt132.1.toList == x7.toList)) else (some false)) else (some true))) else (none))
end
def stolelaw9_UrlSafe.f (k : Nat) (a0 : ByteArray) (a1 : ByteArray) : Option (Bool) := (stolelaw9_awake.f).bind fun t125 => (if t125 = true then ((url_Start.f a0).bind fun t126 => ((url_Part.f a1).bind fun t127 => ((url_Scheme.f t126).bind fun bt128 => ((url_Scheme.f t127).bind fun bt130 => (if bt128.2 = true then (if bt128.1.toList = ([104, 116, 116, 112] : List UInt8) then (stolelaw9_UrlSafe.j0 k t126 t127 bt128.1 bt128.2 bt130.2) else (if bt128.1.toList = ([104, 116, 116, 112, 115] : List UInt8) then (stolelaw9_UrlSafe.j0 k t126 t127 bt128.1 bt128.2 bt130.2) else (if bt128.1.toList = ([109, 97, 105, 108, 116, 111] : List UInt8) then (stolelaw9_UrlSafe.j0 k t126 t127 bt128.1 bt128.2 bt130.2) else (if bt128.1.toList = ([116, 101, 108] : List UInt8) then (stolelaw9_UrlSafe.j0 k t126 t127 bt128.1 bt128.2 bt130.2) else (stolelaw9_UrlSafe.j0 k t126 t127 bt128.1 bt128.2 true))))) else (stolelaw9_UrlSafe.j0 k t126 t127 bt128.1 bt128.2 bt130.2)))))) else (some false))
theorem stolelaw9_UrlSafe.mono_l : ∀ k, (∀ y0 y1 y2 y3 y4, LeO (stolelaw9_UrlSafe.j0 k y0 y1 y2 y3 y4) (stolelaw9_UrlSafe.j0 (k + 1) y0 y1 y2 y3 y4)) ∧ (∀ y0 y1 y2 y3 y4, LeO (stolelaw9_UrlSafe.l0 k y0 y1 y2 y3 y4) (stolelaw9_UrlSafe.l0 (k + 1) y0 y1 y2 y3 y4)) ∧ (∀ y0 y1 y2 y3 y4, LeO (stolelaw9_UrlSafe.l1 k y0 y1 y2 y3 y4) (stolelaw9_UrlSafe.l1 (k + 1) y0 y1 y2 y3 y4))
 | 0 => ⟨fun _ _ _ _ _ r h => by simp [stolelaw9_UrlSafe.j0] at h, fun _ _ _ _ _ r h => by simp [stolelaw9_UrlSafe.l0] at h, fun _ _ _ _ _ r h => by simp [stolelaw9_UrlSafe.l1] at h⟩
 | k + 1 => by
  obtain ⟨ih0, ih1, ih2⟩ := stolelaw9_UrlSafe.mono_l k
  refine ⟨?_, ?_, ?_⟩
  ·intro y0 y1 y2 y3 y4
   unfold stolelaw9_UrlSafe.j0
   repeat' first
   | (with_reducible exact ih0 _ _ _ _ _)
   | (with_reducible exact ih1 _ _ _ _ _)
   | (with_reducible exact ih2 _ _ _ _ _)
   | (with_reducible exact LeO.refl _)
   | (with_reducible exact LeO.none _)
   | (with_reducible refine LeO.ite ?_ ?_)
   | (with_reducible refine LeO.bind ?_ (fun _ => ?_))
   | exact ih0 _ _ _ _ _
   | exact ih1 _ _ _ _ _
   | exact ih2 _ _ _ _ _
   | exact LeO.none _
   | refine LeO.ite ?_ ?_
   | refine LeO.bind ?_ (fun _ => ?_)
  ·intro y0 y1 y2 y3 y4
   unfold stolelaw9_UrlSafe.l0
   repeat' first
   | (with_reducible exact ih0 _ _ _ _ _)
   | (with_reducible exact ih1 _ _ _ _ _)
   | (with_reducible exact ih2 _ _ _ _ _)
   | (with_reducible exact LeO.refl _)
   | (with_reducible exact LeO.none _)
   | (with_reducible refine LeO.ite ?_ ?_)
   | (with_reducible refine LeO.bind ?_ (fun _ => ?_))
   | exact ih0 _ _ _ _ _
   | exact ih1 _ _ _ _ _
   | exact ih2 _ _ _ _ _
   | exact LeO.none _
   | refine LeO.ite ?_ ?_
   | refine LeO.bind ?_ (fun _ => ?_)
  ·intro y0 y1 y2 y3 y4
   unfold stolelaw9_UrlSafe.l1
   repeat' first
   | (with_reducible exact ih0 _ _ _ _ _)
   | (with_reducible exact ih1 _ _ _ _ _)
   | (with_reducible exact ih2 _ _ _ _ _)
   | (with_reducible exact LeO.refl _)
   | (with_reducible exact LeO.none _)
   | (with_reducible refine LeO.ite ?_ ?_)
   | (with_reducible refine LeO.bind ?_ (fun _ => ?_))
   | exact ih0 _ _ _ _ _
   | exact ih1 _ _ _ _ _
   | exact ih2 _ _ _ _ _
   | exact LeO.none _
   | refine LeO.ite ?_ ?_
   | refine LeO.bind ?_ (fun _ => ?_)
theorem stolelaw9_UrlSafe.mono : ∀ a0 a1 k, LeO (stolelaw9_UrlSafe.f k a0 a1) (stolelaw9_UrlSafe.f (k + 1) a0 a1) := by
 intro a0 a1 k
 obtain ⟨ih0, ih1, ih2⟩ := stolelaw9_UrlSafe.mono_l k
 unfold stolelaw9_UrlSafe.f
 repeat' first
   | (with_reducible exact ih0 _ _ _ _ _)
   | (with_reducible exact ih1 _ _ _ _ _)
   | (with_reducible exact ih2 _ _ _ _ _)
   | (with_reducible exact LeO.refl _)
   | (with_reducible exact LeO.none _)
   | (with_reducible refine LeO.ite ?_ ?_)
   | (with_reducible refine LeO.bind ?_ (fun _ => ?_))
   | exact ih0 _ _ _ _ _
   | exact ih1 _ _ _ _ _
   | exact ih2 _ _ _ _ _
   | exact LeO.none _
   | refine LeO.ite ?_ ?_
   | refine LeO.bind ?_ (fun _ => ?_)
set_option maxHeartbeats 8000000 in
set_option maxRecDepth 100000 in
theorem stolelaw9_UrlSafe.calls (k : Nat) (a0 : ByteArray) (a1 : ByteArray) (r : Bool) (w : World) (hT : Tabs w) (h : stolelaw9_UrlSafe.f k a0 a1 = some r) :
  Calls Tryd.prog 3 #[.string a0, .string a1] w fun e w' => e = .returned (.bool r) ∧ Below w.heap.size w w' := by
 have HT := Aside0.mk hT
 clear hT
 have HB := Aside0.mk (Below.refl w.heap.size w)
 have H : ((stolelaw9_awake.f).bind fun t125 => (if t125 = true then ((url_Start.f a0).bind fun t126 => ((url_Part.f a1).bind fun t127 => ((url_Scheme.f t126).bind fun bt128 => ((url_Scheme.f t127).bind fun bt130 => (if bt128.2 = true then (if bt128.1.toList = ([104, 116, 116, 112] : List UInt8) then (stolelaw9_UrlSafe.j0 k t126 t127 bt128.1 bt128.2 bt130.2) else (if bt128.1.toList = ([104, 116, 116, 112, 115] : List UInt8) then (stolelaw9_UrlSafe.j0 k t126 t127 bt128.1 bt128.2 bt130.2) else (if bt128.1.toList = ([109, 97, 105, 108, 116, 111] : List UInt8) then (stolelaw9_UrlSafe.j0 k t126 t127 bt128.1 bt128.2 bt130.2) else (if bt128.1.toList = ([116, 101, 108] : List UInt8) then (stolelaw9_UrlSafe.j0 k t126 t127 bt128.1 bt128.2 bt130.2) else (stolelaw9_UrlSafe.j0 k t126 t127 bt128.1 bt128.2 true))))) else (stolelaw9_UrlSafe.j0 k t126 t127 bt128.1 bt128.2 bt130.2)))))) else (some false))) = some r := h
 clear h
 replace H := Option.bind_eq_some_iff.mp H
 obtain ⟨t125, A30, H⟩ := H
 replace H : (if t125 = true then ((url_Start.f a0).bind fun t126 => ((url_Part.f a1).bind fun t127 => ((url_Scheme.f t126).bind fun bt128 => ((url_Scheme.f t127).bind fun bt130 => (if bt128.2 = true then (if bt128.1.toList = ([104, 116, 116, 112] : List UInt8) then (stolelaw9_UrlSafe.j0 k t126 t127 bt128.1 bt128.2 bt130.2) else (if bt128.1.toList = ([104, 116, 116, 112, 115] : List UInt8) then (stolelaw9_UrlSafe.j0 k t126 t127 bt128.1 bt128.2 bt130.2) else (if bt128.1.toList = ([109, 97, 105, 108, 116, 111] : List UInt8) then (stolelaw9_UrlSafe.j0 k t126 t127 bt128.1 bt128.2 bt130.2) else (if bt128.1.toList = ([116, 101, 108] : List UInt8) then (stolelaw9_UrlSafe.j0 k t126 t127 bt128.1 bt128.2 bt130.2) else (stolelaw9_UrlSafe.j0 k t126 t127 bt128.1 bt128.2 true))))) else (stolelaw9_UrlSafe.j0 k t126 t127 bt128.1 bt128.2 bt130.2)))))) else (some false)) = some r := H
 have A3 := Aside0.mk A30
 clear A30
 by_cases c4 : t125 = true
 ·subst c4
  have H1 : ((url_Start.f a0).bind fun t126 => ((url_Part.f a1).bind fun t127 => ((url_Scheme.f t126).bind fun bt128 => ((url_Scheme.f t127).bind fun bt130 => (if bt128.2 = true then (if bt128.1.toList = ([104, 116, 116, 112] : List UInt8) then (stolelaw9_UrlSafe.j0 k t126 t127 bt128.1 bt128.2 bt130.2) else (if bt128.1.toList = ([104, 116, 116, 112, 115] : List UInt8) then (stolelaw9_UrlSafe.j0 k t126 t127 bt128.1 bt128.2 bt130.2) else (if bt128.1.toList = ([109, 97, 105, 108, 116, 111] : List UInt8) then (stolelaw9_UrlSafe.j0 k t126 t127 bt128.1 bt128.2 bt130.2) else (if bt128.1.toList = ([116, 101, 108] : List UInt8) then (stolelaw9_UrlSafe.j0 k t126 t127 bt128.1 bt128.2 bt130.2) else (stolelaw9_UrlSafe.j0 k t126 t127 bt128.1 bt128.2 true))))) else (stolelaw9_UrlSafe.j0 k t126 t127 bt128.1 bt128.2 bt130.2)))))) = some r := by rw [if_pos rfl] at H; exact H
  clear H
  have H := H1
  clear H1
  replace H := Option.bind_eq_some_iff.mp H
  obtain ⟨t126, A50, H⟩ := H
  replace H : ((url_Part.f a1).bind fun t127 => ((url_Scheme.f t126).bind fun bt128 => ((url_Scheme.f t127).bind fun bt130 => (if bt128.2 = true then (if bt128.1.toList = ([104, 116, 116, 112] : List UInt8) then (stolelaw9_UrlSafe.j0 k t126 t127 bt128.1 bt128.2 bt130.2) else (if bt128.1.toList = ([104, 116, 116, 112, 115] : List UInt8) then (stolelaw9_UrlSafe.j0 k t126 t127 bt128.1 bt128.2 bt130.2) else (if bt128.1.toList = ([109, 97, 105, 108, 116, 111] : List UInt8) then (stolelaw9_UrlSafe.j0 k t126 t127 bt128.1 bt128.2 bt130.2) else (if bt128.1.toList = ([116, 101, 108] : List UInt8) then (stolelaw9_UrlSafe.j0 k t126 t127 bt128.1 bt128.2 bt130.2) else (stolelaw9_UrlSafe.j0 k t126 t127 bt128.1 bt128.2 true))))) else (stolelaw9_UrlSafe.j0 k t126 t127 bt128.1 bt128.2 bt130.2))))) = some r := H
  have A5 := Aside0.mk A50
  clear A50
  replace H := Option.bind_eq_some_iff.mp H
  obtain ⟨t127, A60, H⟩ := H
  replace H : ((url_Scheme.f t126).bind fun bt128 => ((url_Scheme.f t127).bind fun bt130 => (if bt128.2 = true then (if bt128.1.toList = ([104, 116, 116, 112] : List UInt8) then (stolelaw9_UrlSafe.j0 k t126 t127 bt128.1 bt128.2 bt130.2) else (if bt128.1.toList = ([104, 116, 116, 112, 115] : List UInt8) then (stolelaw9_UrlSafe.j0 k t126 t127 bt128.1 bt128.2 bt130.2) else (if bt128.1.toList = ([109, 97, 105, 108, 116, 111] : List UInt8) then (stolelaw9_UrlSafe.j0 k t126 t127 bt128.1 bt128.2 bt130.2) else (if bt128.1.toList = ([116, 101, 108] : List UInt8) then (stolelaw9_UrlSafe.j0 k t126 t127 bt128.1 bt128.2 bt130.2) else (stolelaw9_UrlSafe.j0 k t126 t127 bt128.1 bt128.2 true))))) else (stolelaw9_UrlSafe.j0 k t126 t127 bt128.1 bt128.2 bt130.2)))) = some r := H
  have A6 := Aside0.mk A60
  clear A60
  replace H := Option.bind_eq_some_iff.mp H
  obtain ⟨⟨t128, t129⟩, A70, H⟩ := H
  replace H : ((url_Scheme.f t127).bind fun bt130 => (if t129 = true then (if t128.toList = ([104, 116, 116, 112] : List UInt8) then (stolelaw9_UrlSafe.j0 k t126 t127 t128 t129 bt130.2) else (if t128.toList = ([104, 116, 116, 112, 115] : List UInt8) then (stolelaw9_UrlSafe.j0 k t126 t127 t128 t129 bt130.2) else (if t128.toList = ([109, 97, 105, 108, 116, 111] : List UInt8) then (stolelaw9_UrlSafe.j0 k t126 t127 t128 t129 bt130.2) else (if t128.toList = ([116, 101, 108] : List UInt8) then (stolelaw9_UrlSafe.j0 k t126 t127 t128 t129 bt130.2) else (stolelaw9_UrlSafe.j0 k t126 t127 t128 t129 true))))) else (stolelaw9_UrlSafe.j0 k t126 t127 t128 t129 bt130.2))) = some r := H
  have A7 := Aside0.mk A70
  clear A70
  replace H := Option.bind_eq_some_iff.mp H
  obtain ⟨⟨t130, t131⟩, A80, H⟩ := H
  replace H : (if t129 = true then (if t128.toList = ([104, 116, 116, 112] : List UInt8) then (stolelaw9_UrlSafe.j0 k t126 t127 t128 t129 t131) else (if t128.toList = ([104, 116, 116, 112, 115] : List UInt8) then (stolelaw9_UrlSafe.j0 k t126 t127 t128 t129 t131) else (if t128.toList = ([109, 97, 105, 108, 116, 111] : List UInt8) then (stolelaw9_UrlSafe.j0 k t126 t127 t128 t129 t131) else (if t128.toList = ([116, 101, 108] : List UInt8) then (stolelaw9_UrlSafe.j0 k t126 t127 t128 t129 t131) else (stolelaw9_UrlSafe.j0 k t126 t127 t128 t129 true))))) else (stolelaw9_UrlSafe.j0 k t126 t127 t128 t129 t131)) = some r := H
  have A8 := Aside0.mk A80
  clear A80
  have HC9 := Aside0.mk H
  clear H
  go_enter Tryd.func3, Tryd.ntmps3
  go_upto_region 6 with (first | ((with_reducible refine gate_callee (f := 8) rfl ?_); refine goesL_ (some 16) rfl rfl Tryd.func8 (by kernel_rfl) rfl #[] rfl (by (try simp only [List.map_toArray, List.map_cons, List.map_nil]); first | done | rfl | (simp only [List.length_drop, List.length_take]; rfl)) ?_; (with_reducible refine (stolelaw9_awake.calls  true _ (tabs_below HT.out (by repeat (first | (with_reducible first | exact HB.out | apply below_alloc | apply pw_below_drewN | apply below_drew1) | exact HB.out))) A3.out).mono ?_); rintro e w10 ⟨rfl, hb⟩; refine ⟨_, rfl, ?_⟩; have n0_ := Aside0.mk (below_step (by repeat (first | (with_reducible first | exact HB.out | apply below_alloc | apply pw_below_drewN | apply below_drew1) | exact HB.out)) hb); clear HB; have HB := n0_; clear n0_; (try clear hb); (try clear hb2); (try clear hk); (try clear hi)) | ((with_reducible refine gate_callee (f := 9) rfl ?_); refine goesL_ (some 19) rfl rfl Tryd.func9 (by kernel_rfl) rfl #[.string a0] rfl (by (try simp only [List.map_toArray, List.map_cons, List.map_nil]); first | done | rfl | (simp only [List.length_drop, List.length_take]; rfl)) ?_; (with_reducible refine (url_Start.calls a0 t126 _ (tabs_below HT.out (by repeat (first | (with_reducible first | exact HB.out | apply below_alloc | apply pw_below_drewN | apply below_drew1) | exact HB.out))) A5.out).mono ?_); rintro e w11 ⟨rfl, hb⟩; refine ⟨_, rfl, ?_⟩; have n0_ := Aside0.mk (below_step (by repeat (first | (with_reducible first | exact HB.out | apply below_alloc | apply pw_below_drewN | apply below_drew1) | exact HB.out)) hb); clear HB; have HB := n0_; clear n0_; (try clear hb); (try clear hb2); (try clear hk); (try clear hi)) | ((with_reducible refine gate_callee (f := 10) rfl ?_); refine goesL_ (some 21) rfl rfl Tryd.func10 (by kernel_rfl) rfl #[.string a1] rfl (by (try simp only [List.map_toArray, List.map_cons, List.map_nil]); first | done | rfl | (simp only [List.length_drop, List.length_take]; rfl)) ?_; (with_reducible refine (url_Part.calls a1 t127 _ (tabs_below HT.out (by repeat (first | (with_reducible first | exact HB.out | apply below_alloc | apply pw_below_drewN | apply below_drew1) | exact HB.out))) A6.out).mono ?_); rintro e w12 ⟨rfl, hb⟩; refine ⟨_, rfl, ?_⟩; have n0_ := Aside0.mk (below_step (by repeat (first | (with_reducible first | exact HB.out | apply below_alloc | apply pw_below_drewN | apply below_drew1) | exact HB.out)) hb); clear HB; have HB := n0_; clear n0_; (try clear hb); (try clear hb2); (try clear hk); (try clear hi)) | ((with_reducible refine gate_callee (f := 11) rfl ?_); refine goesL_ (some 24) rfl rfl Tryd.func11 (by kernel_rfl) rfl #[.string t126] rfl (by (try simp only [List.map_toArray, List.map_cons, List.map_nil]); first | done | rfl | (simp only [List.length_drop, List.length_take]; rfl)) ?_; (with_reducible refine (url_Scheme.calls t126 t128 t129 _ A7.out).mono ?_); rintro e w13 ⟨rfl, hb⟩; refine ⟨_, rfl, ?_⟩; have n0_ := Aside0.mk (below_step (by repeat (first | (with_reducible first | exact HB.out | apply below_alloc | apply pw_below_drewN | apply below_drew1) | exact HB.out)) hb); clear HB; have HB := n0_; clear n0_; (try clear hb); (try clear hb2); (try clear hk); (try clear hi)) | ((with_reducible refine gate_callee (f := 11) rfl ?_); refine goesL_ (some 29) rfl rfl Tryd.func11 (by kernel_rfl) rfl #[.string t127] rfl (by (try simp only [List.map_toArray, List.map_cons, List.map_nil]); first | done | rfl | (simp only [List.length_drop, List.length_take]; rfl)) ?_; (with_reducible refine (url_Scheme.calls t127 t130 t131 _ A8.out).mono ?_); rintro e w14 ⟨rfl, hb⟩; refine ⟨_, rfl, ?_⟩; have n0_ := Aside0.mk (below_step (by repeat (first | (with_reducible first | exact HB.out | apply below_alloc | apply pw_below_drewN | apply below_drew1) | exact HB.out)) hb); clear HB; have HB := n0_; clear n0_; (try clear hb); (try clear hb2); (try clear hk); (try clear hi)))
  (try simp only [Act.put, List.setIfInBounds_toArray, List.set_cons_zero, List.set_cons_succ])
  go_cut [51] (fun v51 wc => ∃ (kq : Nat) (x51_8 : Bool), v51 = .bool x51_8 ∧ Aside0 (stolelaw9_UrlSafe.j0 kq t126 t127 t128 t129 x51_8 = some r) ∧ Aside0 (kq ≤ k) ∧ Aside0 (Below w.heap.size w wc))
  case first =>
   have H := HC9.out
   clear HC9
   by_cases c15 : t129 = true
   ·subst c15
    have H1 : (if t128.toList = ([104, 116, 116, 112] : List UInt8) then (stolelaw9_UrlSafe.j0 k t126 t127 t128 true t131) else (if t128.toList = ([104, 116, 116, 112, 115] : List UInt8) then (stolelaw9_UrlSafe.j0 k t126 t127 t128 true t131) else (if t128.toList = ([109, 97, 105, 108, 116, 111] : List UInt8) then (stolelaw9_UrlSafe.j0 k t126 t127 t128 true t131) else (if t128.toList = ([116, 101, 108] : List UInt8) then (stolelaw9_UrlSafe.j0 k t126 t127 t128 true t131) else (stolelaw9_UrlSafe.j0 k t126 t127 t128 true true))))) = some r := by rw [if_pos rfl] at H; exact H
    clear H
    have H := H1
    clear H1
    by_cases c16 : t128.toList = ([104, 116, 116, 112] : List UInt8)
    ·rw [if_pos c16] at H
     have c16b0 : (t128.toList == ([104, 116, 116, 112] : List UInt8)) = true := beq_iff_eq.mpr c16
     have c16b1 : (t128.toList != ([104, 116, 116, 112] : List UInt8)) = false := bne_eq_false_iff_eq.mpr c16
     clear c16
     (first | rw [c16b0] | (simp only [i64_w, i32_w]; rw [c16b0]) | skip)
     have H' := Aside0.mk H
     clear H
     go_wp2
     go_meet
     case rel => exact ⟨_, (t131), (by first | rfl | (simp; done) | (simp [*]; done)), H', ⟨by first | omega | exact Nat.le_refl _⟩, ⟨by repeat (first | (with_reducible first | exact HB.out | apply below_alloc | apply pw_below_drewN | apply below_drew1) | exact HB.out)⟩⟩
    ·rw [if_neg c16] at H
     have c16b0 : (t128.toList == ([104, 116, 116, 112] : List UInt8)) = false := beq_eq_false_iff_ne.mpr c16
     have c16b1 : (t128.toList != ([104, 116, 116, 112] : List UInt8)) = true := bne_iff_ne.mpr c16
     (first | rw [c16b0] | (simp only [i64_w, i32_w]; rw [c16b0]) | skip)
     by_cases c17 : t128.toList = ([104, 116, 116, 112, 115] : List UInt8)
     ·rw [if_pos c17] at H
      have c17b0 : (t128.toList == ([104, 116, 116, 112, 115] : List UInt8)) = true := beq_iff_eq.mpr c17
      have c17b1 : (t128.toList != ([104, 116, 116, 112, 115] : List UInt8)) = false := bne_eq_false_iff_eq.mpr c17
      clear c17
      have H' := Aside0.mk H
      clear H
      go_wp2
      go_meet
      case rel => exact ⟨_, (t131), (by first | rfl | (simp; done) | (simp [*]; done)), H', ⟨by first | omega | exact Nat.le_refl _⟩, ⟨by repeat (first | (with_reducible first | exact HB.out | apply below_alloc | apply pw_below_drewN | apply below_drew1) | exact HB.out)⟩⟩
     ·rw [if_neg c17] at H
      have c17b0 : (t128.toList == ([104, 116, 116, 112, 115] : List UInt8)) = false := beq_eq_false_iff_ne.mpr c17
      have c17b1 : (t128.toList != ([104, 116, 116, 112, 115] : List UInt8)) = true := bne_iff_ne.mpr c17
      by_cases c18 : t128.toList = ([109, 97, 105, 108, 116, 111] : List UInt8)
      ·rw [if_pos c18] at H
       have c18b0 : (t128.toList == ([109, 97, 105, 108, 116, 111] : List UInt8)) = true := beq_iff_eq.mpr c18
       have c18b1 : (t128.toList != ([109, 97, 105, 108, 116, 111] : List UInt8)) = false := bne_eq_false_iff_eq.mpr c18
       clear c18
       have H' := Aside0.mk H
       clear H
       go_wp2
       go_meet
       case rel => exact ⟨_, (t131), (by first | rfl | (simp; done) | (simp [*]; done)), H', ⟨by first | omega | exact Nat.le_refl _⟩, ⟨by repeat (first | (with_reducible first | exact HB.out | apply below_alloc | apply pw_below_drewN | apply below_drew1) | exact HB.out)⟩⟩
      ·rw [if_neg c18] at H
       have c18b0 : (t128.toList == ([109, 97, 105, 108, 116, 111] : List UInt8)) = false := beq_eq_false_iff_ne.mpr c18
       have c18b1 : (t128.toList != ([109, 97, 105, 108, 116, 111] : List UInt8)) = true := bne_iff_ne.mpr c18
       by_cases c19 : t128.toList = ([116, 101, 108] : List UInt8)
       ·rw [if_pos c19] at H
        have c19b0 : (t128.toList == ([116, 101, 108] : List UInt8)) = true := beq_iff_eq.mpr c19
        have c19b1 : (t128.toList != ([116, 101, 108] : List UInt8)) = false := bne_eq_false_iff_eq.mpr c19
        clear c19
        have H' := Aside0.mk H
        clear H
        go_wp2
        go_meet
        case rel => exact ⟨_, (t131), (by first | rfl | (simp; done) | (simp [*]; done)), H', ⟨by first | omega | exact Nat.le_refl _⟩, ⟨by repeat (first | (with_reducible first | exact HB.out | apply below_alloc | apply pw_below_drewN | apply below_drew1) | exact HB.out)⟩⟩
       ·rw [if_neg c19] at H
        have c19b0 : (t128.toList == ([116, 101, 108] : List UInt8)) = false := beq_eq_false_iff_ne.mpr c19
        have c19b1 : (t128.toList != ([116, 101, 108] : List UInt8)) = true := bne_iff_ne.mpr c19
        have H' := Aside0.mk H
        clear H
        go_wp2
        go_meet
        case rel => exact ⟨_, (true), (by first | rfl | (simp; done) | (simp [*]; done)), H', ⟨by first | omega | exact Nat.le_refl _⟩, ⟨by repeat (first | (with_reducible first | exact HB.out | apply below_alloc | apply pw_below_drewN | apply below_drew1) | exact HB.out)⟩⟩
   ·replace c15 := Bool.eq_false_iff.mpr c15
    subst c15
    have H1 : (stolelaw9_UrlSafe.j0 k t126 t127 t128 false t131) = some r := by rw [if_neg (show ¬ (false = true) by decide)] at H; exact H
    clear H
    have H := H1
    clear H1
    have H' := Aside0.mk H
    clear H
    go_wp2
    go_meet
    case rel => exact ⟨_, (t131), (by first | rfl | (simp; done) | (simp [*]; done)), H', ⟨by first | omega | exact Nat.le_refl _⟩, ⟨by repeat (first | (with_reducible first | exact HB.out | apply below_alloc | apply pw_below_drewN | apply below_drew1) | exact HB.out)⟩⟩
  case rest =>
   clear HC9
   try clear c1
   try clear p2
   try clear c3
   try clear c4
   try clear c8
   try clear c9
   try clear c10
   try clear c11
   try clear c15
   try clear c16
   try clear c16b0
   try clear c16b1
   try clear c17
   try clear c17b0
   try clear c17b1
   try clear c18
   try clear c18b0
   try clear c18b1
   try clear c19
   try clear c19b0
   try clear c19b1
   obtain ⟨kq, x51_8, rfl, HA, HJ8, HB⟩ := hcut
   cases kq with
   | zero => exact absurd HA.out (by simp [stolelaw9_UrlSafe.j0])
   | succ kj8 =>
    have H := HA.out
    clear HA
    simp only [stolelaw9_UrlSafe.j0] at H
    by_cases c20 : x51_8 = true
    ·subst c20
     have H1 : (some false) = some r := by rw [if_pos rfl] at H; exact H
     clear H
     have H := H1
     clear H1
     obtain rfl := Option.some.inj H
     go_wp2
     go_ret
     exact ⟨by first | rfl | (simp [errW_none, errW_some] <;> rfl) | (simp [*, errW_none, errW_some] <;> rfl) | (rw [ne_nil_not]; rfl), by repeat (first | (with_reducible first | exact HB.out | apply below_alloc | apply pw_below_drewN | apply below_drew1) | exact HB.out)⟩
    ·replace c20 := Bool.eq_false_iff.mpr c20
     subst c20
     have H1 : (stolelaw9_UrlSafe.l0 kj8 t126 t127 t128 t129 0) = some r := by rw [if_neg (show ¬ (false = true) by decide)] at H; exact H
     clear H
     have H := H1
     clear H1
     have H' := Aside0.mk H
     clear H
     go_wp2
     go_loopg [11] kj8 (fun kq v11 w' => ∃ (x11_2 : Int), v11 = .int .i64 x11_2 ∧ Aside0 (stolelaw9_UrlSafe.l0 kq t126 t127 t128 t129 x11_2 = some r) ∧ Aside0 (kq ≤ kj8) ∧ Aside0 (Below w.heap.size w w'))
     case atStart => exact ⟨(0), (by first | rfl | (simp; done) | (simp [*]; done)), H', ⟨Nat.le_refl _⟩, ⟨by repeat (first | (with_reducible first | exact HB.out | apply below_alloc | apply pw_below_drewN | apply below_drew1) | exact HB.out)⟩⟩
     case round =>
      clear H'
      try clear c1
      try clear c2
      try clear p2
      try clear c3
      try clear c4
      try clear c8
      try clear c9
      try clear c10
      try clear c11
      try clear c15
      try clear c16
      try clear c16b0
      try clear c16b1
      try clear c17
      try clear c17b0
      try clear c17b1
      try clear c18
      try clear c18b0
      try clear c18b1
      try clear c19
      try clear c19b0
      try clear c19b1
      try clear c20
      try clear p2
      obtain ⟨x11_2, rfl, HA, HK2, HB⟩ := hrel
      cases gk with
      | zero => exact absurd HA.out (by simp [stolelaw9_UrlSafe.l0])
      | succ k2 =>
       have H := HA.out
       clear HA
       simp only [stolelaw9_UrlSafe.l0] at H
       by_cases c21 : x11_2 < (t126.size : Int)
       ·rw [if_pos c21] at H
        have c21b0 : decide (x11_2 < (t126.size : Int)) = true := decide_eq_true c21
        clear c21
        by_cases c22 : 0 ≤ x11_2
        ·rw [if_pos c22] at H
         have c22b0 : decide (0 ≤ x11_2) = true := decide_eq_true c22
         clear c22
         by_cases c24 : (bt t126 x11_2) ≤ 32
         ·rw [if_pos c24] at H
          have c24b0 : decide ((bt t126 x11_2) ≤ 32) = true := decide_eq_true c24
          clear c24
          obtain rfl := Option.some.inj H
          have p23 : 0 ≤ (x11_2 : Int) := of_decide_eq_true (by first | (with_reducible assumption) | assumption)
          have q23 : x11_2 < (t126.size : Int) := of_decide_eq_true (by first | (with_reducible assumption) | assumption)
          have hx23 := bt_at t126 x11_2
          replace p23 := eq_true p23
          replace q23 := eq_true q23
          go_wp2
          go_ret
          exact ⟨by first | rfl | (simp [errW_none, errW_some] <;> rfl) | (simp [*, errW_none, errW_some] <;> rfl) | (rw [ne_nil_not]; rfl), by repeat (first | (with_reducible first | exact HB.out | apply below_alloc | apply pw_below_drewN | apply below_drew1) | exact HB.out)⟩
         ·rw [if_neg c24] at H
          have c24b0 : decide ((bt t126 x11_2) ≤ 32) = false := decide_eq_false c24
          clear c24
          by_cases c26 : (bt t126 x11_2) ≥ 127
          ·rw [if_pos c26] at H
           have c26b0 : decide (127 ≤ (bt t126 x11_2)) = true := decide_eq_true c26
           clear c26
           obtain rfl := Option.some.inj H
           have p23 : 0 ≤ (x11_2 : Int) := of_decide_eq_true (by first | (with_reducible assumption) | assumption)
           have q23 : x11_2 < (t126.size : Int) := of_decide_eq_true (by first | (with_reducible assumption) | assumption)
           have hx23 := bt_at t126 x11_2
           replace p23 := eq_true p23
           replace q23 := eq_true q23
           have p25 : 0 ≤ (x11_2 : Int) := of_decide_eq_true (by first | (with_reducible assumption) | assumption)
           have q25 : x11_2 < (t126.size : Int) := of_decide_eq_true (by first | (with_reducible assumption) | assumption)
           have hx25 := bt_at t126 x11_2
           replace p25 := eq_true p25
           replace q25 := eq_true q25
           go_wp2
           go_ret
           exact ⟨by first | rfl | (simp [errW_none, errW_some] <;> rfl) | (simp [*, errW_none, errW_some] <;> rfl) | (rw [ne_nil_not]; rfl), by repeat (first | (with_reducible first | exact HB.out | apply below_alloc | apply pw_below_drewN | apply below_drew1) | exact HB.out)⟩
          ·rw [if_neg c26] at H
           have c26b0 : decide (127 ≤ (bt t126 x11_2)) = false := decide_eq_false c26
           clear c26
           by_cases c28 : (bt t126 x11_2) = 34
           ·rw [if_pos c28] at H
            have c28b0 : ((bt t126 x11_2) == 34) = true := beq_iff_eq.mpr c28
            have c28b1 : ((bt t126 x11_2) != 34) = false := bne_eq_false_iff_eq.mpr c28
            clear c28
            obtain rfl := Option.some.inj H
            have p23 : 0 ≤ (x11_2 : Int) := of_decide_eq_true (by first | (with_reducible assumption) | assumption)
            have q23 : x11_2 < (t126.size : Int) := of_decide_eq_true (by first | (with_reducible assumption) | assumption)
            have hx23 := bt_at t126 x11_2
            replace p23 := eq_true p23
            replace q23 := eq_true q23
            have p25 : 0 ≤ (x11_2 : Int) := of_decide_eq_true (by first | (with_reducible assumption) | assumption)
            have q25 : x11_2 < (t126.size : Int) := of_decide_eq_true (by first | (with_reducible assumption) | assumption)
            have hx25 := bt_at t126 x11_2
            replace p25 := eq_true p25
            replace q25 := eq_true q25
            have p27 : 0 ≤ (x11_2 : Int) := of_decide_eq_true (by first | (with_reducible assumption) | assumption)
            have q27 : x11_2 < (t126.size : Int) := of_decide_eq_true (by first | (with_reducible assumption) | assumption)
            have hx27 := bt_at t126 x11_2
            replace p27 := eq_true p27
            replace q27 := eq_true q27
            go_wp2
            go_ret
            exact ⟨by first | rfl | (simp [errW_none, errW_some] <;> rfl) | (simp [*, errW_none, errW_some] <;> rfl) | (rw [ne_nil_not]; rfl), by repeat (first | (with_reducible first | exact HB.out | apply below_alloc | apply pw_below_drewN | apply below_drew1) | exact HB.out)⟩
           ·rw [if_neg c28] at H
            have c28b0 : ((bt t126 x11_2) == 34) = false := beq_eq_false_iff_ne.mpr c28
            have c28b1 : ((bt t126 x11_2) != 34) = true := bne_iff_ne.mpr c28
            by_cases c30 : (bt t126 x11_2) = 39
            ·rw [if_pos c30] at H
             have c30b0 : ((bt t126 x11_2) == 39) = true := beq_iff_eq.mpr c30
             have c30b1 : ((bt t126 x11_2) != 39) = false := bne_eq_false_iff_eq.mpr c30
             clear c30
             obtain rfl := Option.some.inj H
             have p23 : 0 ≤ (x11_2 : Int) := of_decide_eq_true (by first | (with_reducible assumption) | assumption)
             have q23 : x11_2 < (t126.size : Int) := of_decide_eq_true (by first | (with_reducible assumption) | assumption)
             have hx23 := bt_at t126 x11_2
             replace p23 := eq_true p23
             replace q23 := eq_true q23
             have p25 : 0 ≤ (x11_2 : Int) := of_decide_eq_true (by first | (with_reducible assumption) | assumption)
             have q25 : x11_2 < (t126.size : Int) := of_decide_eq_true (by first | (with_reducible assumption) | assumption)
             have hx25 := bt_at t126 x11_2
             replace p25 := eq_true p25
             replace q25 := eq_true q25
             have p27 : 0 ≤ (x11_2 : Int) := of_decide_eq_true (by first | (with_reducible assumption) | assumption)
             have q27 : x11_2 < (t126.size : Int) := of_decide_eq_true (by first | (with_reducible assumption) | assumption)
             have hx27 := bt_at t126 x11_2
             replace p27 := eq_true p27
             replace q27 := eq_true q27
             have p29 : 0 ≤ (x11_2 : Int) := of_decide_eq_true (by first | (with_reducible assumption) | assumption)
             have q29 : x11_2 < (t126.size : Int) := of_decide_eq_true (by first | (with_reducible assumption) | assumption)
             have hx29 := bt_at t126 x11_2
             replace p29 := eq_true p29
             replace q29 := eq_true q29
             go_wp2
             go_ret
             exact ⟨by first | rfl | (simp [errW_none, errW_some] <;> rfl) | (simp [*, errW_none, errW_some] <;> rfl) | (rw [ne_nil_not]; rfl), by repeat (first | (with_reducible first | exact HB.out | apply below_alloc | apply pw_below_drewN | apply below_drew1) | exact HB.out)⟩
            ·rw [if_neg c30] at H
             have c30b0 : ((bt t126 x11_2) == 39) = false := beq_eq_false_iff_ne.mpr c30
             have c30b1 : ((bt t126 x11_2) != 39) = true := bne_iff_ne.mpr c30
             by_cases c32 : (bt t126 x11_2) = 60
             ·rw [if_pos c32] at H
              have c32b0 : ((bt t126 x11_2) == 60) = true := beq_iff_eq.mpr c32
              have c32b1 : ((bt t126 x11_2) != 60) = false := bne_eq_false_iff_eq.mpr c32
              clear c32
              obtain rfl := Option.some.inj H
              have p23 : 0 ≤ (x11_2 : Int) := of_decide_eq_true (by first | (with_reducible assumption) | assumption)
              have q23 : x11_2 < (t126.size : Int) := of_decide_eq_true (by first | (with_reducible assumption) | assumption)
              have hx23 := bt_at t126 x11_2
              replace p23 := eq_true p23
              replace q23 := eq_true q23
              have p25 : 0 ≤ (x11_2 : Int) := of_decide_eq_true (by first | (with_reducible assumption) | assumption)
              have q25 : x11_2 < (t126.size : Int) := of_decide_eq_true (by first | (with_reducible assumption) | assumption)
              have hx25 := bt_at t126 x11_2
              replace p25 := eq_true p25
              replace q25 := eq_true q25
              have p27 : 0 ≤ (x11_2 : Int) := of_decide_eq_true (by first | (with_reducible assumption) | assumption)
              have q27 : x11_2 < (t126.size : Int) := of_decide_eq_true (by first | (with_reducible assumption) | assumption)
              have hx27 := bt_at t126 x11_2
              replace p27 := eq_true p27
              replace q27 := eq_true q27
              have p29 : 0 ≤ (x11_2 : Int) := of_decide_eq_true (by first | (with_reducible assumption) | assumption)
              have q29 : x11_2 < (t126.size : Int) := of_decide_eq_true (by first | (with_reducible assumption) | assumption)
              have hx29 := bt_at t126 x11_2
              replace p29 := eq_true p29
              replace q29 := eq_true q29
              have p31 : 0 ≤ (x11_2 : Int) := of_decide_eq_true (by first | (with_reducible assumption) | assumption)
              have q31 : x11_2 < (t126.size : Int) := of_decide_eq_true (by first | (with_reducible assumption) | assumption)
              have hx31 := bt_at t126 x11_2
              replace p31 := eq_true p31
              replace q31 := eq_true q31
              go_wp2
              go_ret
              exact ⟨by first | rfl | (simp [errW_none, errW_some] <;> rfl) | (simp [*, errW_none, errW_some] <;> rfl) | (rw [ne_nil_not]; rfl), by repeat (first | (with_reducible first | exact HB.out | apply below_alloc | apply pw_below_drewN | apply below_drew1) | exact HB.out)⟩
             ·rw [if_neg c32] at H
              have c32b0 : ((bt t126 x11_2) == 60) = false := beq_eq_false_iff_ne.mpr c32
              have c32b1 : ((bt t126 x11_2) != 60) = true := bne_iff_ne.mpr c32
              by_cases c34 : (bt t126 x11_2) = 62
              ·rw [if_pos c34] at H
               have c34b0 : ((bt t126 x11_2) == 62) = true := beq_iff_eq.mpr c34
               have c34b1 : ((bt t126 x11_2) != 62) = false := bne_eq_false_iff_eq.mpr c34
               clear c34
               obtain rfl := Option.some.inj H
               have p23 : 0 ≤ (x11_2 : Int) := of_decide_eq_true (by first | (with_reducible assumption) | assumption)
               have q23 : x11_2 < (t126.size : Int) := of_decide_eq_true (by first | (with_reducible assumption) | assumption)
               have hx23 := bt_at t126 x11_2
               replace p23 := eq_true p23
               replace q23 := eq_true q23
               have p25 : 0 ≤ (x11_2 : Int) := of_decide_eq_true (by first | (with_reducible assumption) | assumption)
               have q25 : x11_2 < (t126.size : Int) := of_decide_eq_true (by first | (with_reducible assumption) | assumption)
               have hx25 := bt_at t126 x11_2
               replace p25 := eq_true p25
               replace q25 := eq_true q25
               have p27 : 0 ≤ (x11_2 : Int) := of_decide_eq_true (by first | (with_reducible assumption) | assumption)
               have q27 : x11_2 < (t126.size : Int) := of_decide_eq_true (by first | (with_reducible assumption) | assumption)
               have hx27 := bt_at t126 x11_2
               replace p27 := eq_true p27
               replace q27 := eq_true q27
               have p29 : 0 ≤ (x11_2 : Int) := of_decide_eq_true (by first | (with_reducible assumption) | assumption)
               have q29 : x11_2 < (t126.size : Int) := of_decide_eq_true (by first | (with_reducible assumption) | assumption)
               have hx29 := bt_at t126 x11_2
               replace p29 := eq_true p29
               replace q29 := eq_true q29
               have p31 : 0 ≤ (x11_2 : Int) := of_decide_eq_true (by first | (with_reducible assumption) | assumption)
               have q31 : x11_2 < (t126.size : Int) := of_decide_eq_true (by first | (with_reducible assumption) | assumption)
               have hx31 := bt_at t126 x11_2
               replace p31 := eq_true p31
               replace q31 := eq_true q31
               have p33 : 0 ≤ (x11_2 : Int) := of_decide_eq_true (by first | (with_reducible assumption) | assumption)
               have q33 : x11_2 < (t126.size : Int) := of_decide_eq_true (by first | (with_reducible assumption) | assumption)
               have hx33 := bt_at t126 x11_2
               replace p33 := eq_true p33
               replace q33 := eq_true q33
               go_wp2
               go_ret
               exact ⟨by first | rfl | (simp [errW_none, errW_some] <;> rfl) | (simp [*, errW_none, errW_some] <;> rfl) | (rw [ne_nil_not]; rfl), by repeat (first | (with_reducible first | exact HB.out | apply below_alloc | apply pw_below_drewN | apply below_drew1) | exact HB.out)⟩
              ·rw [if_neg c34] at H
               have c34b0 : ((bt t126 x11_2) == 62) = false := beq_eq_false_iff_ne.mpr c34
               have c34b1 : ((bt t126 x11_2) != 62) = true := bne_iff_ne.mpr c34
               have H' := Aside0.mk H
               clear H
               have p23 : 0 ≤ (x11_2 : Int) := of_decide_eq_true (by first | (with_reducible assumption) | assumption)
               have q23 : x11_2 < (t126.size : Int) := of_decide_eq_true (by first | (with_reducible assumption) | assumption)
               have hx23 := bt_at t126 x11_2
               replace p23 := eq_true p23
               replace q23 := eq_true q23
               have p25 : 0 ≤ (x11_2 : Int) := of_decide_eq_true (by first | (with_reducible assumption) | assumption)
               have q25 : x11_2 < (t126.size : Int) := of_decide_eq_true (by first | (with_reducible assumption) | assumption)
               have hx25 := bt_at t126 x11_2
               replace p25 := eq_true p25
               replace q25 := eq_true q25
               have p27 : 0 ≤ (x11_2 : Int) := of_decide_eq_true (by first | (with_reducible assumption) | assumption)
               have q27 : x11_2 < (t126.size : Int) := of_decide_eq_true (by first | (with_reducible assumption) | assumption)
               have hx27 := bt_at t126 x11_2
               replace p27 := eq_true p27
               replace q27 := eq_true q27
               have p29 : 0 ≤ (x11_2 : Int) := of_decide_eq_true (by first | (with_reducible assumption) | assumption)
               have q29 : x11_2 < (t126.size : Int) := of_decide_eq_true (by first | (with_reducible assumption) | assumption)
               have hx29 := bt_at t126 x11_2
               replace p29 := eq_true p29
               replace q29 := eq_true q29
               have p31 : 0 ≤ (x11_2 : Int) := of_decide_eq_true (by first | (with_reducible assumption) | assumption)
               have q31 : x11_2 < (t126.size : Int) := of_decide_eq_true (by first | (with_reducible assumption) | assumption)
               have hx31 := bt_at t126 x11_2
               replace p31 := eq_true p31
               replace q31 := eq_true q31
               have p33 : 0 ≤ (x11_2 : Int) := of_decide_eq_true (by first | (with_reducible assumption) | assumption)
               have q33 : x11_2 < (t126.size : Int) := of_decide_eq_true (by first | (with_reducible assumption) | assumption)
               have hx33 := bt_at t126 x11_2
               replace p33 := eq_true p33
               replace q33 := eq_true q33
               go_wp2
               go_roundg k2
               case measure => have := HJ8.out; have := HK2.out; omega
               case rel => exact ⟨(wrap64 (x11_2 + 1)), (by first | rfl | (simp; done) | (simp [*]; done)), H', ⟨by have := HJ8.out; have := HK2.out; omega⟩, ⟨by repeat (first | (with_reducible first | exact HB.out | apply below_alloc | apply pw_below_drewN | apply below_drew1) | exact HB.out)⟩⟩
        ·rw [if_neg c22] at H
         exact absurd H (by simp)
       ·rw [if_neg c21] at H
        have c21b0 : decide (x11_2 < (t126.size : Int)) = false := decide_eq_false c21
        clear c21
        have H' := Aside0.mk H
        clear H
        go_wp2
        go_loopg [12] k2 (fun kq v12 w' => ∃ (x12_3 : Int), v12 = .int .i64 x12_3 ∧ Aside0 (stolelaw9_UrlSafe.l1 kq t126 t127 t128 t129 x12_3 = some r) ∧ Aside0 (kq ≤ k2) ∧ Aside0 (Below w.heap.size w w'))
        case atStart => exact ⟨(0), (by first | rfl | (simp; done) | (simp [*]; done)), H', ⟨Nat.le_refl _⟩, ⟨by repeat (first | (with_reducible first | exact HB.out | apply below_alloc | apply pw_below_drewN | apply below_drew1) | exact HB.out)⟩⟩
        case round =>
         clear H'
         try clear c1
         try clear c2
         try clear p2
         try clear q2
         try clear hx2
         try clear c3
         try clear p3
         try clear q3
         try clear hx3
         try clear c4
         try clear p6
         try clear c8
         try clear c9
         try clear c10
         try clear c11
         try clear c15
         try clear c16
         try clear c16b0
         try clear c16b1
         try clear c17
         try clear c17b0
         try clear c17b1
         try clear c18
         try clear c18b0
         try clear c18b1
         try clear c19
         try clear c19b0
         try clear c19b1
         try clear c20
         try clear c21
         try clear c21b0
         try clear c22
         try clear c22b0
         try clear p23
         try clear q23
         try clear hx23
         try clear c24
         try clear c24b0
         try clear p25
         try clear q25
         try clear hx25
         try clear c26
         try clear c26b0
         try clear p27
         try clear q27
         try clear hx27
         try clear c28
         try clear c28b0
         try clear c28b1
         try clear p29
         try clear q29
         try clear hx29
         try clear c30
         try clear c30b0
         try clear c30b1
         try clear p31
         try clear q31
         try clear hx31
         try clear c32
         try clear c32b0
         try clear c32b1
         try clear p33
         try clear q33
         try clear hx33
         try clear c34
         try clear c34b0
         try clear c34b1
         try clear p2
         try clear p23
         try clear p25
         try clear p27
         try clear p29
         try clear p31
         try clear p33
         try clear q23
         try clear q25
         try clear q27
         try clear q29
         try clear q31
         try clear q33
         obtain ⟨x12_3, rfl, HA, HK3, HB⟩ := hrel
         cases gk with
         | zero => exact absurd HA.out (by simp [stolelaw9_UrlSafe.l1])
         | succ k3 =>
          have H := HA.out
          clear HA
          simp only [stolelaw9_UrlSafe.l1] at H
          by_cases c35 : x12_3 < (t127.size : Int)
          ·rw [if_pos c35] at H
           have c35b0 : decide (x12_3 < (t127.size : Int)) = true := decide_eq_true c35
           clear c35
           by_cases c36 : 0 ≤ x12_3
           ·rw [if_pos c36] at H
            have c36b0 : decide (0 ≤ x12_3) = true := decide_eq_true c36
            clear c36
            by_cases c38 : (bt t127 x12_3) = 58
            ·rw [if_pos c38] at H
             have c38b0 : ((bt t127 x12_3) == 58) = true := beq_iff_eq.mpr c38
             have c38b1 : ((bt t127 x12_3) != 58) = false := bne_eq_false_iff_eq.mpr c38
             clear c38
             obtain rfl := Option.some.inj H
             have p37 : 0 ≤ (x12_3 : Int) := of_decide_eq_true (by first | (with_reducible assumption) | assumption)
             have q37 : x12_3 < (t127.size : Int) := of_decide_eq_true (by first | (with_reducible assumption) | assumption)
             have hx37 := bt_at t127 x12_3
             replace p37 := eq_true p37
             replace q37 := eq_true q37
             go_wp2
             go_ret
             exact ⟨by first | rfl | (simp [errW_none, errW_some] <;> rfl) | (simp [*, errW_none, errW_some] <;> rfl) | (rw [ne_nil_not]; rfl), by repeat (first | (with_reducible first | exact HB.out | apply below_alloc | apply pw_below_drewN | apply below_drew1) | exact HB.out)⟩
            ·rw [if_neg c38] at H
             have c38b0 : ((bt t127 x12_3) == 58) = false := beq_eq_false_iff_ne.mpr c38
             have c38b1 : ((bt t127 x12_3) != 58) = true := bne_iff_ne.mpr c38
             by_cases c39 : (bt t127 x12_3) = 47
             ·rw [if_pos c39] at H
              have c39b0 : ((bt t127 x12_3) == 47) = true := beq_iff_eq.mpr c39
              have c39b1 : ((bt t127 x12_3) != 47) = false := bne_eq_false_iff_eq.mpr c39
              clear c39
              obtain rfl := Option.some.inj H
              have p37 : 0 ≤ (x12_3 : Int) := of_decide_eq_true (by first | (with_reducible assumption) | assumption)
              have q37 : x12_3 < (t127.size : Int) := of_decide_eq_true (by first | (with_reducible assumption) | assumption)
              have hx37 := bt_at t127 x12_3
              replace p37 := eq_true p37
              replace q37 := eq_true q37
              go_wp2
              go_ret
              exact ⟨by first | rfl | (simp [errW_none, errW_some] <;> rfl) | (simp [*, errW_none, errW_some] <;> rfl) | (rw [ne_nil_not]; rfl), by repeat (first | (with_reducible first | exact HB.out | apply below_alloc | apply pw_below_drewN | apply below_drew1) | exact HB.out)⟩
             ·rw [if_neg c39] at H
              have c39b0 : ((bt t127 x12_3) == 47) = false := beq_eq_false_iff_ne.mpr c39
              have c39b1 : ((bt t127 x12_3) != 47) = true := bne_iff_ne.mpr c39
              by_cases c40 : (bt t127 x12_3) = 63
              ·rw [if_pos c40] at H
               have c40b0 : ((bt t127 x12_3) == 63) = true := beq_iff_eq.mpr c40
               have c40b1 : ((bt t127 x12_3) != 63) = false := bne_eq_false_iff_eq.mpr c40
               clear c40
               obtain rfl := Option.some.inj H
               have p37 : 0 ≤ (x12_3 : Int) := of_decide_eq_true (by first | (with_reducible assumption) | assumption)
               have q37 : x12_3 < (t127.size : Int) := of_decide_eq_true (by first | (with_reducible assumption) | assumption)
               have hx37 := bt_at t127 x12_3
               replace p37 := eq_true p37
               replace q37 := eq_true q37
               go_wp2
               go_ret
               exact ⟨by first | rfl | (simp [errW_none, errW_some] <;> rfl) | (simp [*, errW_none, errW_some] <;> rfl) | (rw [ne_nil_not]; rfl), by repeat (first | (with_reducible first | exact HB.out | apply below_alloc | apply pw_below_drewN | apply below_drew1) | exact HB.out)⟩
              ·rw [if_neg c40] at H
               have c40b0 : ((bt t127 x12_3) == 63) = false := beq_eq_false_iff_ne.mpr c40
               have c40b1 : ((bt t127 x12_3) != 63) = true := bne_iff_ne.mpr c40
               by_cases c41 : (bt t127 x12_3) = 35
               ·rw [if_pos c41] at H
                have c41b0 : ((bt t127 x12_3) == 35) = true := beq_iff_eq.mpr c41
                have c41b1 : ((bt t127 x12_3) != 35) = false := bne_eq_false_iff_eq.mpr c41
                clear c41
                obtain rfl := Option.some.inj H
                have p37 : 0 ≤ (x12_3 : Int) := of_decide_eq_true (by first | (with_reducible assumption) | assumption)
                have q37 : x12_3 < (t127.size : Int) := of_decide_eq_true (by first | (with_reducible assumption) | assumption)
                have hx37 := bt_at t127 x12_3
                replace p37 := eq_true p37
                replace q37 := eq_true q37
                go_wp2
                go_ret
                exact ⟨by first | rfl | (simp [errW_none, errW_some] <;> rfl) | (simp [*, errW_none, errW_some] <;> rfl) | (rw [ne_nil_not]; rfl), by repeat (first | (with_reducible first | exact HB.out | apply below_alloc | apply pw_below_drewN | apply below_drew1) | exact HB.out)⟩
               ·rw [if_neg c41] at H
                have c41b0 : ((bt t127 x12_3) == 35) = false := beq_eq_false_iff_ne.mpr c41
                have c41b1 : ((bt t127 x12_3) != 35) = true := bne_iff_ne.mpr c41
                by_cases c42 : (bt t127 x12_3) = 38
                ·rw [if_pos c42] at H
                 have c42b0 : ((bt t127 x12_3) == 38) = true := beq_iff_eq.mpr c42
                 have c42b1 : ((bt t127 x12_3) != 38) = false := bne_eq_false_iff_eq.mpr c42
                 clear c42
                 obtain rfl := Option.some.inj H
                 have p37 : 0 ≤ (x12_3 : Int) := of_decide_eq_true (by first | (with_reducible assumption) | assumption)
                 have q37 : x12_3 < (t127.size : Int) := of_decide_eq_true (by first | (with_reducible assumption) | assumption)
                 have hx37 := bt_at t127 x12_3
                 replace p37 := eq_true p37
                 replace q37 := eq_true q37
                 go_wp2
                 go_ret
                 exact ⟨by first | rfl | (simp [errW_none, errW_some] <;> rfl) | (simp [*, errW_none, errW_some] <;> rfl) | (rw [ne_nil_not]; rfl), by repeat (first | (with_reducible first | exact HB.out | apply below_alloc | apply pw_below_drewN | apply below_drew1) | exact HB.out)⟩
                ·rw [if_neg c42] at H
                 have c42b0 : ((bt t127 x12_3) == 38) = false := beq_eq_false_iff_ne.mpr c42
                 have c42b1 : ((bt t127 x12_3) != 38) = true := bne_iff_ne.mpr c42
                 by_cases c43 : (bt t127 x12_3) ≤ 32
                 ·rw [if_pos c43] at H
                  have c43b0 : decide ((bt t127 x12_3) ≤ 32) = true := decide_eq_true c43
                  clear c43
                  obtain rfl := Option.some.inj H
                  have p37 : 0 ≤ (x12_3 : Int) := of_decide_eq_true (by first | (with_reducible assumption) | assumption)
                  have q37 : x12_3 < (t127.size : Int) := of_decide_eq_true (by first | (with_reducible assumption) | assumption)
                  have hx37 := bt_at t127 x12_3
                  replace p37 := eq_true p37
                  replace q37 := eq_true q37
                  go_wp2
                  go_ret
                  exact ⟨by first | rfl | (simp [errW_none, errW_some] <;> rfl) | (simp [*, errW_none, errW_some] <;> rfl) | (rw [ne_nil_not]; rfl), by repeat (first | (with_reducible first | exact HB.out | apply below_alloc | apply pw_below_drewN | apply below_drew1) | exact HB.out)⟩
                 ·rw [if_neg c43] at H
                  have c43b0 : decide ((bt t127 x12_3) ≤ 32) = false := decide_eq_false c43
                  clear c43
                  by_cases c44 : (bt t127 x12_3) ≥ 127
                  ·rw [if_pos c44] at H
                   have c44b0 : decide (127 ≤ (bt t127 x12_3)) = true := decide_eq_true c44
                   clear c44
                   obtain rfl := Option.some.inj H
                   have p37 : 0 ≤ (x12_3 : Int) := of_decide_eq_true (by first | (with_reducible assumption) | assumption)
                   have q37 : x12_3 < (t127.size : Int) := of_decide_eq_true (by first | (with_reducible assumption) | assumption)
                   have hx37 := bt_at t127 x12_3
                   replace p37 := eq_true p37
                   replace q37 := eq_true q37
                   go_wp2
                   go_ret
                   exact ⟨by first | rfl | (simp [errW_none, errW_some] <;> rfl) | (simp [*, errW_none, errW_some] <;> rfl) | (rw [ne_nil_not]; rfl), by repeat (first | (with_reducible first | exact HB.out | apply below_alloc | apply pw_below_drewN | apply below_drew1) | exact HB.out)⟩
                  ·rw [if_neg c44] at H
                   have c44b0 : decide (127 ≤ (bt t127 x12_3)) = false := decide_eq_false c44
                   clear c44
                   by_cases c45 : (bt t127 x12_3) = 34
                   ·rw [if_pos c45] at H
                    have c45b0 : ((bt t127 x12_3) == 34) = true := beq_iff_eq.mpr c45
                    have c45b1 : ((bt t127 x12_3) != 34) = false := bne_eq_false_iff_eq.mpr c45
                    clear c45
                    obtain rfl := Option.some.inj H
                    have p37 : 0 ≤ (x12_3 : Int) := of_decide_eq_true (by first | (with_reducible assumption) | assumption)
                    have q37 : x12_3 < (t127.size : Int) := of_decide_eq_true (by first | (with_reducible assumption) | assumption)
                    have hx37 := bt_at t127 x12_3
                    replace p37 := eq_true p37
                    replace q37 := eq_true q37
                    go_wp2
                    go_ret
                    exact ⟨by first | rfl | (simp [errW_none, errW_some] <;> rfl) | (simp [*, errW_none, errW_some] <;> rfl) | (rw [ne_nil_not]; rfl), by repeat (first | (with_reducible first | exact HB.out | apply below_alloc | apply pw_below_drewN | apply below_drew1) | exact HB.out)⟩
                   ·rw [if_neg c45] at H
                    have c45b0 : ((bt t127 x12_3) == 34) = false := beq_eq_false_iff_ne.mpr c45
                    have c45b1 : ((bt t127 x12_3) != 34) = true := bne_iff_ne.mpr c45
                    by_cases c46 : (bt t127 x12_3) = 39
                    ·rw [if_pos c46] at H
                     have c46b0 : ((bt t127 x12_3) == 39) = true := beq_iff_eq.mpr c46
                     have c46b1 : ((bt t127 x12_3) != 39) = false := bne_eq_false_iff_eq.mpr c46
                     clear c46
                     obtain rfl := Option.some.inj H
                     have p37 : 0 ≤ (x12_3 : Int) := of_decide_eq_true (by first | (with_reducible assumption) | assumption)
                     have q37 : x12_3 < (t127.size : Int) := of_decide_eq_true (by first | (with_reducible assumption) | assumption)
                     have hx37 := bt_at t127 x12_3
                     replace p37 := eq_true p37
                     replace q37 := eq_true q37
                     go_wp2
                     go_ret
                     exact ⟨by first | rfl | (simp [errW_none, errW_some] <;> rfl) | (simp [*, errW_none, errW_some] <;> rfl) | (rw [ne_nil_not]; rfl), by repeat (first | (with_reducible first | exact HB.out | apply below_alloc | apply pw_below_drewN | apply below_drew1) | exact HB.out)⟩
                    ·rw [if_neg c46] at H
                     have c46b0 : ((bt t127 x12_3) == 39) = false := beq_eq_false_iff_ne.mpr c46
                     have c46b1 : ((bt t127 x12_3) != 39) = true := bne_iff_ne.mpr c46
                     have H' := Aside0.mk H
                     clear H
                     have p37 : 0 ≤ (x12_3 : Int) := of_decide_eq_true (by first | (with_reducible assumption) | assumption)
                     have q37 : x12_3 < (t127.size : Int) := of_decide_eq_true (by first | (with_reducible assumption) | assumption)
                     have hx37 := bt_at t127 x12_3
                     replace p37 := eq_true p37
                     replace q37 := eq_true q37
                     go_wp2
                     go_roundg k3
                     case measure => have := HJ8.out; have := HK2.out; have := HK3.out; omega
                     case rel => exact ⟨(wrap64 (x12_3 + 1)), (by first | rfl | (simp; done) | (simp [*]; done)), H', ⟨by have := HJ8.out; have := HK2.out; have := HK3.out; omega⟩, ⟨by repeat (first | (with_reducible first | exact HB.out | apply below_alloc | apply pw_below_drewN | apply below_drew1) | exact HB.out)⟩⟩
           ·rw [if_neg c36] at H
            exact absurd H (by simp)
          ·rw [if_neg c35] at H
           have c35b0 : decide (x12_3 < (t127.size : Int)) = false := decide_eq_false c35
           clear c35
           by_cases c47 : t126.size + t127.size ≤ 9223372036854775807
           ·rw [if_pos c47] at H
            have c47b0 := eq_true c47
            have c47b1 : decide (t126.size + t127.size ≤ 9223372036854775807) = true := decide_eq_true c47
            try have c47b2 : (9223372036854775807 < t126.size + t127.size) = False := eq_false (Nat.not_lt.2 c47)
            replace H := Option.bind_eq_some_iff.mp H
            obtain ⟨⟨t132, t133⟩, A480, H⟩ := H
            replace H : (if t133 = true then (if t129 = true then (some (t132.toList == t128.toList)) else (some false)) else (some true)) = some r := H
            have A48 := Aside0.mk A480
            clear A480
            by_cases c49 : t133 = true
            ·subst c49
             have H1 : (if t129 = true then (some (t132.toList == t128.toList)) else (some false)) = some r := by rw [if_pos rfl] at H; exact H
             clear H
             have H := H1
             clear H1
             by_cases c50 : t129 = true
             ·subst c50
              have H1 : (some (t132.toList == t128.toList)) = some r := by rw [if_pos rfl] at H; exact H
              clear H
              have H := H1
              clear H1
              obtain rfl := Option.some.inj H
              go_wp2_with (first | ((with_reducible refine gate_callee (f := 11) rfl ?_); refine goesL_ (some 139) rfl rfl Tryd.func11 (by kernel_rfl) rfl #[.string (t126 ++ t127)] rfl (by (try simp only [List.map_toArray, List.map_cons, List.map_nil]); first | done | rfl | (simp only [List.length_drop, List.length_take]; rfl)) ?_; (with_reducible refine (url_Scheme.calls (t126 ++ t127) t132 true _ A48.out).mono ?_); rintro e w51 ⟨rfl, hb⟩; refine ⟨_, rfl, ?_⟩; have n0_ := Aside0.mk (below_step (by repeat (first | (with_reducible first | exact HB.out | apply below_alloc | apply pw_below_drewN | apply below_drew1) | exact HB.out)) hb); clear HB; have HB := n0_; clear n0_; (try clear hb); (try clear hb2); (try clear hk); (try clear hi)))
              go_ret
              exact ⟨by first | rfl | (simp [errW_none, errW_some] <;> rfl) | (simp [*, errW_none, errW_some] <;> rfl) | (rw [ne_nil_not]; rfl), by repeat (first | (with_reducible first | exact HB.out | apply below_alloc | apply pw_below_drewN | apply below_drew1) | exact HB.out)⟩
             ·replace c50 := Bool.eq_false_iff.mpr c50
              subst c50
              have H1 : (some false) = some r := by rw [if_neg (show ¬ (false = true) by decide)] at H; exact H
              clear H
              have H := H1
              clear H1
              obtain rfl := Option.some.inj H
              go_wp2_with (first | ((with_reducible refine gate_callee (f := 11) rfl ?_); refine goesL_ (some 139) rfl rfl Tryd.func11 (by kernel_rfl) rfl #[.string (t126 ++ t127)] rfl (by (try simp only [List.map_toArray, List.map_cons, List.map_nil]); first | done | rfl | (simp only [List.length_drop, List.length_take]; rfl)) ?_; (with_reducible refine (url_Scheme.calls (t126 ++ t127) t132 true _ A48.out).mono ?_); rintro e w52 ⟨rfl, hb⟩; refine ⟨_, rfl, ?_⟩; have n0_ := Aside0.mk (below_step (by repeat (first | (with_reducible first | exact HB.out | apply below_alloc | apply pw_below_drewN | apply below_drew1) | exact HB.out)) hb); clear HB; have HB := n0_; clear n0_; (try clear hb); (try clear hb2); (try clear hk); (try clear hi)))
              go_ret
              exact ⟨by first | rfl | (simp [errW_none, errW_some] <;> rfl) | (simp [*, errW_none, errW_some] <;> rfl) | (rw [ne_nil_not]; rfl), by repeat (first | (with_reducible first | exact HB.out | apply below_alloc | apply pw_below_drewN | apply below_drew1) | exact HB.out)⟩
            ·replace c49 := Bool.eq_false_iff.mpr c49
             subst c49
             have H1 : (some true) = some r := by rw [if_neg (show ¬ (false = true) by decide)] at H; exact H
             clear H
             have H := H1
             clear H1
             obtain rfl := Option.some.inj H
             go_wp2_with (first | ((with_reducible refine gate_callee (f := 11) rfl ?_); refine goesL_ (some 139) rfl rfl Tryd.func11 (by kernel_rfl) rfl #[.string (t126 ++ t127)] rfl (by (try simp only [List.map_toArray, List.map_cons, List.map_nil]); first | done | rfl | (simp only [List.length_drop, List.length_take]; rfl)) ?_; (with_reducible refine (url_Scheme.calls (t126 ++ t127) t132 false _ A48.out).mono ?_); rintro e w53 ⟨rfl, hb⟩; refine ⟨_, rfl, ?_⟩; have n0_ := Aside0.mk (below_step (by repeat (first | (with_reducible first | exact HB.out | apply below_alloc | apply pw_below_drewN | apply below_drew1) | exact HB.out)) hb); clear HB; have HB := n0_; clear n0_; (try clear hb); (try clear hb2); (try clear hk); (try clear hi)))
             go_ret
             exact ⟨by first | rfl | (simp [errW_none, errW_some] <;> rfl) | (simp [*, errW_none, errW_some] <;> rfl) | (rw [ne_nil_not]; rfl), by repeat (first | (with_reducible first | exact HB.out | apply below_alloc | apply pw_below_drewN | apply below_drew1) | exact HB.out)⟩
           ·rw [if_neg c47] at H
            exact absurd H (by simp)
 ·replace c4 := Bool.eq_false_iff.mpr c4
  subst c4
  have H1 : (some false) = some r := by rw [if_neg (show ¬ (false = true) by decide)] at H; exact H
  clear H
  have H := H1
  clear H1
  obtain rfl := Option.some.inj H
  go_enter Tryd.func3, Tryd.ntmps3
  go_wp2_with (first | ((with_reducible refine gate_callee (f := 8) rfl ?_); refine goesL_ (some 16) rfl rfl Tryd.func8 (by kernel_rfl) rfl #[] rfl (by (try simp only [List.map_toArray, List.map_cons, List.map_nil]); first | done | rfl | (simp only [List.length_drop, List.length_take]; rfl)) ?_; (with_reducible refine (stolelaw9_awake.calls  false _ (tabs_below HT.out (by repeat (first | (with_reducible first | exact HB.out | apply below_alloc | apply pw_below_drewN | apply below_drew1) | exact HB.out))) A3.out).mono ?_); rintro e w54 ⟨rfl, hb⟩; refine ⟨_, rfl, ?_⟩; have n0_ := Aside0.mk (below_step (by repeat (first | (with_reducible first | exact HB.out | apply below_alloc | apply pw_below_drewN | apply below_drew1) | exact HB.out)) hb); clear HB; have HB := n0_; clear n0_; (try clear hb); (try clear hb2); (try clear hk); (try clear hi)))
  go_ret
  exact ⟨by first | rfl | (simp [errW_none, errW_some] <;> rfl) | (simp [*, errW_none, errW_some] <;> rfl) | (rw [ne_nil_not]; rfl), by repeat (first | (with_reducible first | exact HB.out | apply below_alloc | apply pw_below_drewN | apply below_drew1) | exact HB.out)⟩

/-- THE ONE PURE STATEMENT of stolelaw9_UrlSafe: yours. -/
def stolelaw9_UrlSafe.Pure : Prop := ∀ (a0 : ByteArray) (a1 : ByteArray), a0.size ≤ 140737488351232 → a1.size ≤ 140737488351232 → ∃ k, stolelaw9_UrlSafe.f k a0 a1 = some true
theorem stolelaw9_UrlSafe.walk (P : stolelaw9_UrlSafe.Pure) (a0 : ByteArray) (a1 : ByteArray) (w : World) (hT : Tabs w) (w0 : a0.size ≤ 140737488351232) (w1 : a1.size ≤ 140737488351232) :
  Calls Tryd.prog 3 #[.string a0, .string a1] w fun e w' => e = .returned (.bool true) ∧ Below w.heap.size w w' := by
 obtain ⟨k, h⟩ := P a0 a1 w0 w1
 refine (stolelaw9_UrlSafe.calls k a0 a1 true w hT h).mono ?_
 rintro e w' ⟨rfl, hd⟩
 exact ⟨rfl, hd⟩

/-! ### stolelaw9_sixteen: function 12 -/
def stolelaw9_sixteen.f (a0 : Int) : Option (Int) := if a0 ≥ 65 then (some ((((a0 - 65) % 256) + 10) % 256)) else (some ((a0 - 48) % 256))
set_option maxHeartbeats 8000000 in
set_option maxRecDepth 100000 in
theorem stolelaw9_sixteen.calls (a0 : Int) (r : Int) (w : World) (h : stolelaw9_sixteen.f a0 = some r) :
  Calls Tryd.prog 12 #[.int .u8 a0] w fun e w' => e = .returned (.int .u8 r) ∧ Drawn0 w w' := by
 have H : (if a0 ≥ 65 then (some ((((a0 - 65) % 256) + 10) % 256)) else (some ((a0 - 48) % 256))) = some r := h
 clear h
 by_cases c2 : a0 ≥ 65
 ·rw [if_pos c2] at H
  have c2b0 : decide (65 ≤ a0) = true := decide_eq_true c2
  clear c2
  obtain rfl := Option.some.inj H
  go_enter Tryd.func12, Tryd.ntmps12
  go_wp2
  go_ret
  exact ⟨by first | rfl | (simp; done) | (simp [*]; done), by repeat (first | exact Drawn0.refl _ | apply Drawn0.step)⟩
 ·rw [if_neg c2] at H
  have c2b0 : decide (65 ≤ a0) = false := decide_eq_false c2
  clear c2
  obtain rfl := Option.some.inj H
  go_enter Tryd.func12, Tryd.ntmps12
  go_wp2
  go_ret
  exact ⟨by first | rfl | (simp; done) | (simp [*]; done), by repeat (first | exact Drawn0.refl _ | apply Drawn0.step)⟩

end Go.Proofs.YtfncppekjgbedaaDoor.XU
