/- refs.Encode, refs.Decode. -/
import Derived.Test.YtfabijpafbhdbaaDoorRefWalk3
namespace Go.Proofs.YtfabijpafbhdbaaDoor.Refs
open Go.RowKit Go.Lib Go.Proofs.YtfabijpafbhdbaaDoorW.PrintWords Go.Proofs.YtfabijpafbhdbaaDoorW.PrintLast Go.Proofs.YtfabijpafbhdbaaDoorW.PrintMore Go.Proofs.YtfabijpafbhdbaaDoor.Utf Go.Proofs.YtfabijpafbhdbaaDoor.Bld Go.Proofs.YtfabijpafbhdbaaDoor.Ext

theorem wr_len (c : Nat) : (wrL c).length ≤ 6 := by
  unfold wrL; repeat' split
  all_goals decide
theorem enc_app (l m : List UInt8) : encL (l ++ m) = encL l ++ encL m := List.flatMap_append ..
theorem enc_one (b : UInt8) : encL [b] = encB b := by simp [encL]
theorem take_succ_get (t : ByteArray) (k : Nat) (h : k < t.size) : t.data.toList.take (k + 1) = t.data.toList.take k ++ [t[k]] := by
  rw [List.take_add_one, List.getElem?_eq_getElem (by rw [len_size]; exact h)]; rfl

set_option maxHeartbeats 1600000 in
theorem encode_calls (s : ByteArray) (w : World) (hT : Tabs w) (hs : 18 * s.size ≤ 140737488355328) :
    Calls Tryd.prog 9 #[.string s] w fun e w' => e = .returned (.string ⟨(encL (normL s.data.toList)).toArray⟩) ∧ Below w.heap.size w w' := by
  have hn := norm_calls s w hT (by omega)
  have hnl := norm_len s.data.toList
  obtain ⟨t, ht⟩ : ∃ t : ByteArray, (⟨(normL s.data.toList).toArray⟩ : ByteArray) = t := ⟨_, rfl⟩
  have htl : normL s.data.toList = t.data.toList := by rw [← ht]
  rw [ht] at hn
  have hts : 6 * t.size ≤ 140737488355328 := by
    rw [htl, len_size, len_size] at hnl; omega
  rw [htl]
  have HN := Aside0.mk hn
  clear hn hnl ht htl hT hs
  go_enter Tryd.func9, Tryd.ntmps9
  go_wp2_with (go_at_call 18; refine HN.out.mono ?_; rintro e w1 ⟨rfl, hb1⟩)
  have h0 : Lib.IsBuilderF 36 5 w1.heap.size w1.heap.size (Lib.byteCells []) (w1.alloc (.cells #[.pointer none, .slice none 0 0] 36)) := Lib.IsBuilderF.of (Lib.fresh_isBuilder 36 5 w1)
  have b0 : Below w1.heap.size w1 (w1.alloc (.cells #[.pointer none, .slice none 0 0] 36)) := (Below.refl _ w1).alloc (Nat.le_refl _) _
  have H0 := Aside0.mk h0
  have B0 := Aside0.mk b0
  have HB1 := Aside0.mk hb1
  clear h0 b0 hb1 HN
  go_wp2
  go_loopw [10] (fun i wr => ∃ k : Nat, k ≤ t.size ∧ i = .int .i64 (k : Int) ∧ (encL (t.data.toList.take k)).length ≤ 6 * k ∧ Lib.IsBuilderF 36 5 w1.heap.size w1.heap.size (Lib.byteCells (encL (t.data.toList.take k))) wr ∧ Below w1.heap.size w1 wr)
    (fun i _ => t.size - (RowKit.intOf i).toNat)
  case atStart => exact ⟨0, Nat.zero_le _, rfl, Nat.le_refl _, H0.out, B0.out⟩
  case round =>
    obtain ⟨k, hk, rfl, hlen, hI, hX⟩ := hrel
    have HI := Aside0.mk hI
    have HX := Aside0.mk hX
    clear H0 B0 hI hX
    by_cases hlt : k < t.size
    · have hw := written_calls (t[k]).toNat wr
      have htk := take_succ_get t k hlt
      by_cases hz : wrL (t[k]).toNat = []
      · rw [hz] at hw
        have he : encL (t.data.toList.take (k + 1)) = encL (t.data.toList.take k) ++ [t[k]] := by rw [htk, enc_app, enc_one]; unfold encB; rw [if_pos hz]
        have HE := Aside0.mk he
        have HW : Aside0 (Calls Tryd.prog 19 #[.int .u8 ((t[k]).toNat : Int)] wr fun e w' => e = .returned (.string ⟨#[]⟩) ∧ wr = w') := ⟨hw⟩
        have hwb := writeByte w1.heap.size w1.heap.size (Lib.byteCells (encL (t.data.toList.take k))) ((t[k]).toNat : Int) wr HI.out (by rw [Lib.byteCells_length]; omega) HX.out.size
        have HWB := Aside0.mk hwb
        clear hw htk hz he hwb
        go_wp2_with (first | (go_at_call 19; refine HW.out.mono ?_; rintro e w2 ⟨rfl, rfl⟩) | (go_at_call 21; refine HWB.out.mono ?_; rintro e w3 ⟨rfl, hi3, hb3, _⟩))
        have HI3 : Aside0 (Lib.IsBuilderF 36 5 w1.heap.size w1.heap.size (Lib.byteCells (encL (t.data.toList.take (k + 1)))) w3) := ⟨by
          rw [HE.out, Lib.byteCells_append]; exact .inr hi3⟩
        have HB3 := Aside0.mk hb3
        clear hi3 hb3 HI
        go_wp2
        go_roundw
        case rel => exact ⟨k + 1, by omega, by go_num, by rw [HE.out, List.length_append]; simp only [List.length_cons, List.length_nil]; omega, HI3.out, HX.out.trans HB3.out⟩
        case measure => simp [RowKit.intOf]; omega
      · obtain ⟨x, hx⟩ : ∃ x : ByteArray, (⟨(wrL (t[k]).toNat).toArray⟩ : ByteArray) = x := ⟨_, rfl⟩
        have hxl : x.data.toList = wrL (t[k]).toNat := by rw [← hx]
        have hne : x.toList.isEmpty = false := nempty_of (by rw [hxl]; exact hz)
        have hx6 : x.size ≤ 6 := by rw [← len_size, hxl]; exact wr_len _
        rw [hx] at hw
        have he : encL (t.data.toList.take (k + 1)) = encL (t.data.toList.take k) ++ x.data.toList := by rw [htk, enc_app, enc_one, hxl]; unfold encB; rw [if_neg hz]
        have HE := Aside0.mk he
        have HW := Aside0.mk hw
        have hwb := writeString w1.heap.size w1.heap.size (Lib.byteCells (encL (t.data.toList.take k))) x wr HI.out (by rw [Lib.byteCells_length]; omega) HX.out.size
        have HWB := Aside0.mk hwb
        clear hw htk hz he hwb hx hxl
        go_wp2_with (first | (go_at_call 19; refine HW.out.mono ?_; rintro e w2 ⟨rfl, rfl⟩) | (go_at_call 20; refine HWB.out.mono ?_; rintro e w3 ⟨rfl, hi3, hb3, _⟩))
        have HI3 : Aside0 (Lib.IsBuilderF 36 5 w1.heap.size w1.heap.size (Lib.byteCells (encL (t.data.toList.take (k + 1)))) w3) := ⟨by
          rw [HE.out, ← bytes_str]; exact .inr hi3⟩
        have HB3 := Aside0.mk hb3
        clear hi3 hb3 HI
        go_wp2
        go_roundw
        case rel => exact ⟨k + 1, by omega, by go_num, by rw [HE.out, List.length_append, len_size]; omega, HI3.out, HX.out.trans HB3.out⟩
        case measure => simp [RowKit.intOf]; omega
    · have hfin : t.data.toList.take k = t.data.toList := List.take_of_length_le (by rw [len_size]; omega)
      have hstr := Tryd.Builder_String_any_f w1.heap.size w1.heap.size (encL (t.data.toList.take k)) wr HI.out HX.out.size
      rw [hfin] at hstr
      have HS := Aside0.mk hstr
      clear hfin hstr
      go_wp2_with (go_at_call 22; refine HS.out.mono ?_; rintro e w2 ⟨rfl, _, hb2⟩)
      go_wp2
      go_ret
      exact ⟨rfl, HB1.out.trans ((HX.out.trans hb2).mono HB1.out.size)⟩

theorem head_take (t : ByteArray) (i : Nat) : (t.extract 0 i).data.toList = t.data.toList.take i := head_data t i
theorem mid_data (t : ByteArray) (i : Nat) : (t.extract 1 i).data.toList = (t.data.toList.take i).drop 1 := by
  rw [Lib.extract_data]; simp [List.drop_take]

set_option maxHeartbeats 3200000 in
theorem decode_calls (s : ByteArray) (w : World) (hs : s.size ≤ 140737488355328) :
    Calls Tryd.prog 11 #[.string s] w fun e w' => e = .returned (.string ⟨(decL s.data.toList).toArray⟩) ∧ Below w.heap.size w w' := by
  have h0 : Lib.IsBuilderF 36 5 w.heap.size w.heap.size (Lib.byteCells []) (w.alloc (.cells #[.pointer none, .slice none 0 0] 36)) := Lib.IsBuilderF.of (Lib.fresh_isBuilder 36 5 w)
  have b0 : Below w.heap.size w (w.alloc (.cells #[.pointer none, .slice none 0 0] 36)) := (Below.refl _ w).alloc (Nat.le_refl _) _
  have H0 := Aside0.mk h0
  have B0 := Aside0.mk b0
  clear h0 b0
  go_enter Tryd.func11, Tryd.ntmps11
  go_wp2
  go_loopw [0] (fun tv wr => ∃ (t : ByteArray) (acc : List UInt8), tv = .string t ∧ acc.length + t.size ≤ s.size ∧ Lib.IsBuilderF 36 5 w.heap.size w.heap.size (Lib.byteCells acc) wr ∧ Below w.heap.size w wr ∧
      decL s.data.toList = acc ++ decL t.data.toList)
    (fun tv _ => strLen tv)
  case atStart => exact ⟨s, [], rfl, by simp, H0.out, B0.out, rfl⟩
  case round =>
    obtain ⟨t, acc, rfl, hts, hI, hnx, hd⟩ := hrel
    have HD := Aside0.mk hd
    have HI := Aside0.mk hI
    have HX := Aside0.mk hnx
    clear H0 B0 hd hI hnx
    by_cases hz : t.data.toList = []
    · obtain rfl := empty_of hz
      have hfin : decL s.data.toList = acc := by rw [HD.out]; simp [decL_nil]
      have hsz := HX.out.size
      have hstr := Tryd.Builder_String_any_f w.heap.size w.heap.size acc wr HI.out hsz
      rw [← hfin] at hstr
      have HS := Aside0.mk hstr
      clear HD hfin hts hsz hz hstr
      go_wp2_with (go_at_call 22; refine HS.out.mono ?_; rintro e w2 ⟨rfl, _, hb2⟩)
      go_wp2
      go_ret
      exact ⟨rfl, HX.out.trans hb2⟩
    · have hne := nempty_of hz
      have hl := len_size t
      obtain ⟨c0, l0, hcl⟩ : ∃ c l, t.data.toList = c :: l := by
        cases h : t.data.toList with
        | nil => exact absurd h hz
        | cons c l => exact ⟨c, l, rfl⟩
      have hpos : 0 < t.size := by rw [← hl, hcl]; simp
      have hc0 : t[0] = c0 := by
        have : t.data.toList[0]? = some c0 := by rw [hcl]; rfl
        rw [List.getElem?_eq_getElem (by rw [hl]; exact hpos)] at this
        exact Option.some.inj this
      have hrest : (t.extract 1 t.size).data.toList = l0 := by rw [drop_data, hcl]; rfl
      have hrsz : (t.extract 1 t.size).size = t.size - 1 := by simp
      -- a byte that stays
      have hwb := fun W (hI : Lib.IsBuilderF 36 5 w.heap.size w.heap.size (Lib.byteCells acc) W) (hX : Below w.heap.size w W) => writeByte w.heap.size w.heap.size (Lib.byteCells acc) (c0.toNat : Int) W hI (by rw [Lib.byteCells_length]; omega) hX.size
      have HWB := Aside0.mk hwb
      have hstay : refAt t.data.toList = none ∨ c0 ≠ 38 → decL t.data.toList = c0 :: decL (t.extract 1 t.size).data.toList := by
        intro h
        rw [hrest]
        rw [hcl] at h ⊢
        rcases h with h | h
        · exact decL_none c0 l0 h
        · exact decL_plain c0 l0 h
      have HSTAY := Aside0.mk hstay
      have HR := Aside0.mk hrsz
      clear hstay hwb hrsz
      have hci : ((t[0]).toNat : Int) = (c0.toNat : Int) := by rw [hc0]
      have g1 : (1 : Int) ≤ (t.size : Int) := by omega
      by_cases hc : c0 = 38
      · have c1 : ((c0.toNat : Int) == 38) = true := by rw [hc]; rfl
        obtain ⟨e, he⟩ : ∃ e, indexByte (t.data.toList.take 11) 59 = e := ⟨_, rfl⟩
        have hcut : (t.extract 0 (min (t.size : Int) 11).toNat).data.toList = t.data.toList.take 11 := by
          rw [head_take]
          rcases Nat.lt_or_ge t.size 11 with h | h
          · rw [List.take_of_length_le (by omega), List.take_of_length_le (by omega)]
          · rw [show (min (t.size : Int) 11).toNat = 11 from by omega]
        have hix := Tryd.strings_IndexByte (t.extract 0 (min (t.size : Int) 11).toNat) 59 wr
        rw [hcut] at hix
        have hix2 : Calls Tryd.prog 23 #[.string (t.extract 0 (min (t.size : Int) 11).toNat), .int .u8 59] wr fun e' w' => e' = .returned (.int .i64 e) ∧ w' = wr := by rw [← he]; exact hix
        have HIX := Aside0.mk hix2
        have hlt := indexByte_lt (t.data.toList.take 11) 59
        rw [he, List.length_take, hl] at hlt
        clear hix hix2 hcut
        by_cases he0 : 0 < e
        · obtain ⟨n, rfl⟩ : ∃ n : Nat, e = (n : Int) := ⟨e.toNat, by omega⟩
          have d1 : decide ((0 : Int) < (n : Int)) = true := decide_eq_true he0
          have hmt := meant_calls (t.extract 1 n) wr
          have hmid : (t.extract 1 n).data.toList = (t.data.toList.take n).drop 1 := mid_data t n
          have href : refAt t.data.toList = (meantL (t.extract 1 n).data.toList).map fun x => (x, n + 1) := by
            unfold refAt
            rw [he, if_pos he0, hmid]; rfl
          have n1 : n < t.size := by omega
          have n2 : 0 < n := by omega
          have n3 : (1 : Int) ≤ (n : Int) := by omega
          have n4 : (n : Int) ≤ (t.size : Int) := by omega
          have n5 : (n : Int) + 1 ≤ (t.size : Int) := by omega
          cases hm : meantL (t.extract 1 n).data.toList with
          | none =>
            rw [hm] at hmt href
            have hmt2 : Calls Tryd.prog 24 #[.string (t.extract 1 n)] wr fun e w' => e = .returned (.tuple #[.string ⟨#[]⟩, .bool false]) ∧ Below wr.heap.size wr w' := hmt
            have HM := Aside0.mk hmt2
            have hd2 := HSTAY.out (.inl href)
            have HD2 := Aside0.mk hd2
            clear HSTAY hd2 hmt hmt2 href hm hmid he hlt hc hcl hrest hc0 hl he0
            go_wp2_with (first | (go_at_call 23; refine HIX.out.mono ?_; rintro e w1 ⟨rfl, rfl⟩) | (go_at_call 24; refine HM.out.mono ?_; rintro e w1 ⟨rfl, hb1⟩))
            have HX1 := Aside0.mk (HX.out.trans (hb1.mono HX.out.size))
            have HWB2 := Aside0.mk (HWB.out w1 (isF_step HI.out hb1) HX1.out)
            clear HWB hb1
            go_wp2_with (go_at_call 21; refine HWB2.out.mono ?_; rintro e w3 ⟨rfl, hi3, hb3, _⟩)
            have HI3 : Aside0 (Lib.IsBuilderF 36 5 w.heap.size w.heap.size (Lib.byteCells (acc ++ [c0])) w3) := ⟨by
              rw [Lib.byteCells_append]; exact .inr hi3⟩
            have HB3 := Aside0.mk hb3
            clear hi3 hb3
            go_wp2
            go_roundw
            case rel => exact ⟨t.extract 1 t.size, acc ++ [c0], rfl, by rw [HR.out, List.length_append]; simp only [List.length_cons, List.length_nil]; omega, HI3.out, HX1.out.trans HB3.out, by rw [HD.out, HD2.out, List.append_assoc]; rfl⟩
            case measure => simp [strLen]; omega
          | some x =>
            rw [hm] at hmt href
            have hmt2 : Calls Tryd.prog 24 #[.string (t.extract 1 n)] wr fun e w' => e = .returned (.tuple #[.string ⟨x.toArray⟩, .bool true]) ∧ Below wr.heap.size wr w' := hmt
            have HM := Aside0.mk hmt2
            have href2 : refAt (38 :: l0) = some (x, n + 1) := by rw [← hc, ← hcl, href]; rfl
            have hd2 : decL t.data.toList = x ++ decL (t.extract (n + 1) t.size).data.toList := by
              rw [drop_data, hcl, hc, decL_some l0 x n href2]; rfl
            have hxl := (refAt_len href).1
            have HD2 := Aside0.mk hd2
            have HXL : Aside0 (x.length ≤ n + 1) := ⟨hxl⟩
            have hxs : (⟨x.toArray⟩ : ByteArray).size = x.length := by show x.toArray.size = _; simp
            have HXS := Aside0.mk hxs
            have hts2 := hts
            clear HSTAY hd2 hmt hmt2 href href2 hm hmid he hlt hc hcl hrest hc0 hl he0 HWB hxl hxs
            go_wp2_with (first | (go_at_call 23; refine HIX.out.mono ?_; rintro e w1 ⟨rfl, rfl⟩) | (go_at_call 24; refine HM.out.mono ?_; rintro e w1 ⟨rfl, hb1⟩))
            have HX1 := Aside0.mk (HX.out.trans (hb1.mono HX.out.size))
            have HWB2 := Aside0.mk (writeString w.heap.size w.heap.size (Lib.byteCells acc) ⟨x.toArray⟩ w1 (isF_step HI.out hb1) (by rw [Lib.byteCells_length, HXS.out]; have := HXL.out; omega) HX1.out.size)
            clear hb1
            go_wp2_with (go_at_call 20; refine HWB2.out.mono ?_; rintro e w3 ⟨rfl, hi3, hb3, _⟩)
            have HI3 : Aside0 (Lib.IsBuilderF 36 5 w.heap.size w.heap.size (Lib.byteCells (acc ++ x)) w3) := ⟨by
              have := hi3; rw [bytes_str] at this; exact .inr this⟩
            have HB3 := Aside0.mk hb3
            clear hi3 hb3
            go_wp2
            go_roundw
            case rel => exact ⟨t.extract (n + 1) t.size, acc ++ x, rfl, by
              have := HXL.out
              rw [List.length_append, show (t.extract (n + 1) t.size).size = t.size - (n + 1) from by simp]; omega, HI3.out, HX1.out.trans HB3.out, by rw [HD.out, HD2.out, List.append_assoc]⟩
            case measure => simp [strLen]; omega
        · have d1 : decide ((0 : Int) < e) = false := decide_eq_false he0
          have href : refAt t.data.toList = none := by unfold refAt; rw [he, if_neg he0]
          have hd2 := HSTAY.out (.inl href)
          have HD2 := Aside0.mk hd2
          have HWB2 := Aside0.mk (HWB.out wr HI.out HX.out)
          have HX1 := HX
          clear HWB HSTAY hd2 href he hlt hc hcl hrest hc0 hl he0
          go_wp2_with (first | (go_at_call 23; refine HIX.out.mono ?_; rintro e w1 ⟨rfl, rfl⟩) | (go_at_call 21; refine HWB2.out.mono ?_; rintro e w3 ⟨rfl, hi3, hb3, _⟩))
          have HI3 : Aside0 (Lib.IsBuilderF 36 5 w.heap.size w.heap.size (Lib.byteCells (acc ++ [c0])) w3) := ⟨by
            rw [Lib.byteCells_append]; exact .inr hi3⟩
          have HB3 := Aside0.mk hb3
          clear hi3 hb3
          go_wp2
          go_roundw
          case rel => exact ⟨t.extract 1 t.size, acc ++ [c0], rfl, by rw [HR.out, List.length_append]; simp only [List.length_cons, List.length_nil]; omega, HI3.out, HX1.out.trans HB3.out, by rw [HD.out, HD2.out, List.append_assoc]; rfl⟩
          case measure => simp [strLen]; omega
      · have hd2 := HSTAY.out (.inr hc)
        have HD2 := Aside0.mk hd2
        have c1 : ((c0.toNat : Int) == 38) = false := by
          rw [beq_eq_false_iff_ne]; intro e
          apply hc; apply UInt8.toNat_inj.1; show c0.toNat = 38; omega
        have HWB2 := Aside0.mk (HWB.out wr HI.out HX.out)
        clear HWB HSTAY hd2 hc hcl hrest hc0 hl
        go_wp2_with (go_at_call 21; refine HWB2.out.mono ?_; rintro e w3 ⟨rfl, hi3, hb3, _⟩)
        have HI3 : Aside0 (Lib.IsBuilderF 36 5 w.heap.size w.heap.size (Lib.byteCells (acc ++ [c0])) w3) := ⟨by
          rw [Lib.byteCells_append]; exact .inr hi3⟩
        have HB3 := Aside0.mk hb3
        clear hi3 hb3
        go_wp2
        go_roundw
        case rel => exact ⟨t.extract 1 t.size, acc ++ [c0], rfl, by rw [HR.out, List.length_append]; simp only [List.length_cons, List.length_nil]; omega, HI3.out, HX.out.trans HB3.out, by rw [HD.out, HD2.out, List.append_assoc]; rfl⟩
        case measure => simp [strLen]; omega
end Go.Proofs.YtfabijpafbhdbaaDoor.Refs
