/- The law UtfLowers, walked by hand (the print falls at its guarded region): it returns true. -/
import Derived.Test.YtnhhbfanpnpgdaaDoorXU3
import Derived.Test.YtnhhbfanpnpgdaaDoorPureUtfs
import Derived.Deep.QuietTactic
import Derived.BigQuiet
namespace Go.Proofs.YtnhhbfanpnpgdaaDoor.Lowers
open Go.RowKit Go.Lib Go.Proofs.YtnhhbfanpnpgdaaDoor.XU Go.Proofs.YtnhhbfanpnpgdaaDoorW.PrintWords Go.Proofs.YtnhhbfanpnpgdaaDoorW.PrintLast Go.Proofs.YtnhhbfanpnpgdaaDoorW.PrintMore Go.Proofs.YtnhhbfanpnpgdaaDoor.Base Go.Proofs.YtnhhbfanpnpgdaaDoor.Ext Go.Proofs.YtnhhbfanpnpgdaaDoor.Utf Go.Proofs.YtnhhbfanpnpgdaaDoor.Pure

theorem lowS_data (s : ByteArray) : (lowS s).data.toList = s.data.toList.map lowB := rfl
theorem lowS_size (s : ByteArray) : (lowS s).size = s.size := by rw [← data_length, lowS_data, List.length_map, data_length]
theorem lowN_low (n : Nat) : lowN (lowN n) = lowN n := by
  unfold lowN
  by_cases h : 65 ≤ n ∧ n ≤ 90
  · rw [if_pos h, if_neg (by omega)]
  · rw [if_neg h, if_neg h]
theorem lowB_low (b : UInt8) : lowB (lowB b) = lowB b := by
  apply UInt8.toNat_inj.mp
  rw [lowB_nat, lowB_nat, lowN_low]
theorem low_low (s : ByteArray) : lowS (lowS s) = lowS s := by
  apply ext_list
  rw [lowS_data, lowS_data, List.map_map]
  exact List.map_congr_left fun b _ => lowB_low b
theorem low_append (s t : ByteArray) : lowS (s ++ t) = lowS s ++ lowS t := by
  apply ext_list
  rw [data_append, lowS_data, data_append, List.map_append, lowS_data, lowS_data]
theorem low_at (s : ByteArray) (k : Nat) (h : k < s.size) (h2 : k < (lowS s).size) : ((lowS s)[k]'h2).toNat = lowN (s[k]'h).toNat := by
  have e : ∀ (t : ByteArray) (h : k < t.size), (t[k]'h) = t.data.toList[k]'(by rw [data_length]; exact h) := fun t h => by rw [Array.getElem_toList]; rfl
  rw [e, e]
  simp only [lowS_data, List.getElem_map, lowB_nat]

set_option maxHeartbeats 4000000 in
theorem lowers_walk (s t : ByteArray) (w : World) (hT : Tabs w) (hs : s.size ≤ 140737488351232) (ht : t.size ≤ 140737488351232) :
    Calls Tryd.prog 5 #[.string s, .string t] w fun e w' => e = .returned (.bool true) ∧ Below w.heap.size w w' := by
  have hx : ∃ x, lowS s = x := ⟨_, rfl⟩
  obtain ⟨x, hxe⟩ := hx
  have hxs : x.size = s.size := by rw [← hxe]; exact lowS_size s
  have c1 := fun W (hb : Below w.heap.size w W) => stolelaw1_awake.calls true W (tabs_below hT hb) awake1
  have c2 := fun W => utf_Lower.calls s x W (by rw [lower_ok s (by omega), hxe])
  have c3 := fun W => utf_Lower.calls x x W (by rw [lower_ok x (by omega), ← hxe, low_low])
  have c4 := fun W => utf_Lower.calls (s ++ t) (x ++ lowS t) W (by rw [lower_ok (s ++ t) (by rw [size_append]; omega), low_append, hxe])
  have c5 := fun W => utf_Lower.calls t (lowS t) W (by rw [lower_ok t (by omega)])
  have hlt := lowS_size t
  have hat : ∀ k (h : k < s.size) (h2 : k < x.size), (x[k]'h2).toNat = lowN (s[k]'h).toNat := by subst hxe; exact low_at s
  have C1 := Aside0.mk c1
  have C2 := Aside0.mk c2
  have C3 := Aside0.mk c3
  have C4 := Aside0.mk c4
  have C5 := Aside0.mk c5
  have HA := Aside0.mk hat
  have HX := Aside0.mk hxs
  generalize lowS t = y at *
  have HY := Aside0.mk hlt
  have b1 : s.size + t.size ≤ 9223372036854775807 := by omega
  have b2 : x.size + y.size ≤ 9223372036854775807 := by omega
  have e1 : ((x.size : Int) == (s.size : Int)) = true := by rw [hxs]; exact beq_self_eq_true _
  have e2 : ((x.size : Int) != (s.size : Int)) = false := by rw [hxs]; simp
  have e3 : (x.size == s.size) = true := by rw [hxs]; exact beq_self_eq_true _
  clear c1 c2 c3 c4 c5 hat hxe hT hxs hlt
  go_enter Tryd.func5, Tryd.ntmps5
  go_wp2_with (go_at_call 14; refine (C1.out _ (Below.refl _ _)).mono ?_; rintro e w1 ⟨rfl, hb1⟩)
  have B1 := Aside0.mk hb1
  clear hb1
  go_wp2_with fail
  refine (C2.out _).mono ?_
  rintro e w2 ⟨rfl, hb2⟩
  have B2 := Aside0.mk (B1.out.trans (hb2.mono B1.out.size))
  clear hb2
  go_wp2_with fail
  refine (C3.out _).mono ?_
  rintro e w3 ⟨rfl, hb3⟩
  have B3 := Aside0.mk (B2.out.trans (hb3.mono B2.out.size))
  clear hb3
  go_wp2_with fail
  refine (C4.out _).mono ?_
  rintro e w4 ⟨rfl, hb4⟩
  have B4 := Aside0.mk (B3.out.trans (hb4.mono B3.out.size))
  clear hb4
  go_wp2_with fail
  refine (C5.out _).mono ?_
  rintro e w5 ⟨rfl, hb5⟩
  have B5 := Aside0.mk (B4.out.trans (hb5.mono B4.out.size))
  clear hb5
  clear C1 C2 C3 C4 C5 B1 B2 B3 B4
  go_wp2_with fail
  go_loopw [6] (fun i wr => ∃ k : Nat, k ≤ s.size ∧ i = .int .i64 k ∧ Below w.heap.size w wr) (fun i _ => s.size - (RowKit.intOf i).toNat)
  case atStart => exact ⟨0, Nat.zero_le _, rfl, B5.out⟩
  case round =>
    obtain ⟨k, hk, rfl, hbl⟩ := hrel
    have HB := Aside0.mk hbl
    clear hbl B5
    by_cases hlt : k < s.size
    · have hlx : k < x.size := by rw [HX.out]; exact hlt
      have hv := HA.out k hlt hlx
      obtain ⟨c, hc⟩ : ∃ c, (s[k]'hlt).toNat = c := ⟨_, rfl⟩
      obtain ⟨d, hd⟩ : ∃ d, (x[k]'hlx).toNat = d := ⟨_, rfl⟩
      have hcl : c < 256 := by rw [← hc]; exact UInt8.toNat_lt _
      rw [hc, hd] at hv
      have i1 : (k : Int) < (s.size : Int) := by omega
      have i2 : (k : Int) < (x.size : Int) := by omega
      by_cases g1 : 65 ≤ c
      · have d1 : decide ((65 : Int) ≤ (c : Int)) = true := decide_eq_true (by omega)
        by_cases g2 : c ≤ 90
        · have d2 : decide ((c : Int) ≤ 90) = true := decide_eq_true (by omega)
          have hde : d = c + 32 := by rw [hv]; unfold lowN; rw [if_pos ⟨g1, g2⟩]
          have d3 : ((d : Int) == (c : Int) + 32) = true := by rw [hde]; simp
          have d4 : ((d : Int) != (c : Int) + 32) = false := by rw [hde]; simp
          have HDE := Aside0.mk hde
          clear hde hv
          go_wp2_with fail
          go_quiet (fail)
          go_wp2_with fail
          exact ⟨⟨k + 1, by omega, by go_num, pw_below_drewN HB.out _⟩, by simp [RowKit.intOf]; omega⟩
        · have d2 : decide ((c : Int) ≤ 90) = false := decide_eq_false (by omega)
          have hde : d = c := by rw [hv]; unfold lowN; rw [if_neg (fun h => g2 h.2)]
          have d3 : ((d : Int) == (c : Int)) = true := by rw [hde]; simp
          have d4 : ((d : Int) != (c : Int)) = false := by rw [hde]; simp
          have HDE := Aside0.mk hde
          clear hde hv
          go_wp2_with fail
          go_quiet (fail)
          go_wp2_with fail
          exact ⟨⟨k + 1, by omega, by go_num, pw_below_drewN HB.out _⟩, by simp [RowKit.intOf]; omega⟩
      · have d1 : decide ((65 : Int) ≤ (c : Int)) = false := decide_eq_false (by omega)
        have hde : d = c := by rw [hv]; unfold lowN; rw [if_neg (fun h => g1 h.1)]
        have d3 : ((d : Int) == (c : Int)) = true := by rw [hde]; simp
        have d4 : ((d : Int) != (c : Int)) = false := by rw [hde]; simp
        have HDE := Aside0.mk hde
        clear hde hv
        go_wp2_with fail
        go_quiet (fail)
        go_wp2_with fail
        exact ⟨⟨k + 1, by omega, by go_num, pw_below_drewN HB.out _⟩, by simp [RowKit.intOf]; omega⟩
    · have hnl : ¬ ((k : Int) < (s.size : Int)) := by omega
      go_wp2_with fail
      go_ret
      exact ⟨rfl, HB.out⟩
end Go.Proofs.YtnhhbfanpnpgdaaDoor.Lowers
