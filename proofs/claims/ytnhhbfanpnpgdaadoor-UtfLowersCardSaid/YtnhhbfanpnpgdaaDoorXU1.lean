/- Laid by xprint.py, a program of this session over the kit's print: for each Go function one Lean function of the same answers, and the walk that shows it. -/
import Derived.Test.YtnhhbfanpnpgdaaDoorXU0
namespace Go.Proofs.YtnhhbfanpnpgdaaDoor.XU
open Go.RowKit Go.Proofs.YtnhhbfanpnpgdaaDoor.Ext Go.Proofs.YtnhhbfanpnpgdaaDoorW.PrintWords Go.Proofs.YtnhhbfanpnpgdaaDoorW.PrintLast Go.Proofs.YtnhhbfanpnpgdaaDoorW.PrintMore
attribute [local go_sem] max2_int min2_int max_two min_two max_three min_three max_four min_four   -- for this text's walks alone
set_option linter.unusedVariables false
set_option linter.unusedSimpArgs false

-- NOT PRINTED: function 24 (utf8_decodeRuneInStringSlow)

-- NOT PRINTED: function 22 (utf8_DecodeRuneInString)

-- NOT PRINTED: function 17 (utf_sign)

-- NOT PRINTED: function 25 (abi_NoEscape)

-- NOT PRINTED: function 23 (strings_Builder_copyCheck)

-- NOT PRINTED: function 18 (strings_Builder_WriteString)

-- NOT PRINTED: function 19 (strings_Builder_String)

-- GIVEN BY HAND: function 10 (utf_Norm)

/-! ### utf_May: function 8 -/
def utf_May.f (a0 : ByteArray) : Option (Bool) := (utf_Norm.f a0).bind fun t101 => (some (t101.toList == a0.toList))
set_option maxHeartbeats 8000000 in
set_option maxRecDepth 100000 in
theorem utf_May.calls (a0 : ByteArray) (r : Bool) (w : World) (hT : Tabs w) (h : utf_May.f a0 = some r) :
  Calls Tryd.prog 8 #[.string a0] w fun e w' => e = .returned (.bool r) ∧ Below w.heap.size w w' := by
 have HT := Aside0.mk hT
 clear hT
 have HB := Aside0.mk (Below.refl w.heap.size w)
 have H : ((utf_Norm.f a0).bind fun t101 => (some (t101.toList == a0.toList))) = some r := h
 clear h
 replace H := Option.bind_eq_some_iff.mp H
 obtain ⟨t101, A20, H⟩ := H
 replace H : (some (t101.toList == a0.toList)) = some r := H
 have A2 := Aside0.mk A20
 clear A20
 obtain rfl := Option.some.inj H
 go_enter Tryd.func8, Tryd.ntmps8
 go_wp2_with (first | ((with_reducible refine gate_callee (f := 10) rfl ?_); refine goesL_ (some 4) rfl rfl Tryd.func10 (by kernel_rfl) rfl #[.string a0] rfl (by (try simp only [List.map_toArray, List.map_cons, List.map_nil]); first | done | rfl | (simp only [List.length_drop, List.length_take]; rfl)) ?_; (with_reducible refine (utf_Norm.calls a0 t101 _ (tabs_below HT.out (by repeat (first | (with_reducible first | exact HB.out | apply below_alloc | apply pw_below_drewN | apply below_drew1) | exact HB.out))) A2.out).mono ?_); rintro e w3 ⟨rfl, hb⟩; refine ⟨_, rfl, ?_⟩; have n0_ := Aside0.mk (below_step (by repeat (first | (with_reducible first | exact HB.out | apply below_alloc | apply pw_below_drewN | apply below_drew1) | exact HB.out)) hb); clear HB; have HB := n0_; clear n0_; (try clear hb); (try clear hb2); (try clear hk); (try clear hi)))
 go_ret
 exact ⟨by first | rfl | (simp [errW_none, errW_some] <;> rfl) | (simp [*, errW_none, errW_some] <;> rfl), by repeat (first | (with_reducible first | exact HB.out | apply below_alloc | apply pw_below_drewN | apply below_drew1) | exact HB.out)⟩

end Go.Proofs.YtnhhbfanpnpgdaaDoor.XU
