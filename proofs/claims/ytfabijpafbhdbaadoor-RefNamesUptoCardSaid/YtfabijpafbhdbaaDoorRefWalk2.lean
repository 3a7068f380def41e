/- refs.numbered, refs.named, refs.meant. -/
import Derived.Test.YtfabijpafbhdbaaDoorRefWalk1
import Derived.Deep.QuietTactic
import Derived.BigQuiet
namespace Go.Proofs.YtfabijpafbhdbaaDoor.Refs
open Go.RowKit Go.Lib Go.Proofs.YtfabijpafbhdbaaDoorW.PrintWords Go.Proofs.YtfabijpafbhdbaaDoorW.PrintLast Go.Proofs.YtfabijpafbhdbaaDoorW.PrintMore

def optV : Option (List UInt8) → Value
  | some x => .tuple #[.string ⟨x.toArray⟩, .bool true]
  | none => .tuple #[.string ⟨#[]⟩, .bool false]

theorem optV_some (b : ByteArray) : optV (some b.data.toList) = .tuple #[.string b, .bool true] := by
  rcases b with ⟨a⟩
  show Value.tuple #[.string ⟨a.toList.toArray⟩, .bool true] = _
  rw [Array.toArray_toList]
theorem numGo_lt : ∀ (l : List UInt8) (base x y : Nat), numGo l base x = some y → y < (x + 1) * base ^ l.length
  | [], _, x, y, h => by
    unfold numGo at h; injection h with h; subst h; simp
  | c :: l, base, x, y, h => by
    unfold numGo at h
    split at h
    · cases h
    · rename_i hb
      have := numGo_lt l base _ y h
      have h2 : x * base + digN c.toNat base + 1 ≤ (x + 1) * base := by rw [Nat.add_mul]; omega
      calc y < (x * base + digN c.toNat base + 1) * base ^ l.length := this
        _ ≤ ((x + 1) * base) * base ^ l.length := Nat.mul_le_mul_right _ h2
        _ = _ := by rw [List.length_cons, Nat.pow_succ, Nat.mul_assoc, Nat.mul_comm base]

theorem numGo_cons (c : UInt8) (l : List UInt8) (base x : Nat) : numGo (c :: l) base x = if base ≤ digN c.toNat base then none else numGo l base (x * base + digN c.toNat base) := rfl
theorem drop_cons_getD (l : List UInt8) (i : Nat) (h : i < l.length) : l.drop i = l.getD i 0 :: l.drop (i + 1) := by
  rw [List.getD_eq_getElem?_getD, List.getElem?_eq_getElem h, Option.getD_some]
  exact (List.getElem_cons_drop h).symm
theorem empty_of {s : ByteArray} (h : s.data.toList = []) : s = ⟨#[]⟩ := by
  rcases s with ⟨⟨l⟩⟩; simp at h; rw [h]
theorem nempty_of {s : ByteArray} (h : s.data.toList ≠ []) : s.toList.isEmpty = false := by
  rw [Lib.toList_data]
  cases h' : s.data.toList with
  | nil => exact absurd h' h
  | cons _ _ => rfl
theorem len_size (s : ByteArray) : s.data.toList.length = s.size := by rw [Array.length_toList]; rfl

set_option maxHeartbeats 1600000 in
theorem numbered_calls (s : ByteArray) (base most : Nat) (w : World) (hb : 1 ≤ base ∧ base ≤ 16) (hm : most ≤ 7) :
    Calls Tryd.prog 33 #[.string s, .int .i64 (base : Int), .int .i64 (most : Int)] w fun e w' => e = .returned (optV (numL s.data.toList base most)) ∧ Below w.heap.size w w' := by
  by_cases he : s.data.toList = []
  · obtain rfl := empty_of he
    have hf : numL (⟨#[]⟩ : ByteArray).data.toList base most = none := by unfold numL; rw [if_pos (.inl rfl)]
    have HF := Aside0.mk hf
    clear hf he
    go_enter Tryd.func33, Tryd.ntmps33
    go_wp2
    go_ret2
    exact ⟨by rw [HF.out]; rfl, Below.refl _ _⟩
  · have hne := nempty_of he
    have hl := len_size s
    by_cases hlong : most < s.size
    · have hf : numL s.data.toList base most = none := by unfold numL; rw [if_pos (.inr (by rw [hl]; exact hlong))]
      have HF := Aside0.mk hf
      have d1 : decide ((most : Int) < (s.size : Int)) = true := decide_eq_true (by omega)
      have d2 : decide (most < s.size) = true := decide_eq_true hlong
      clear hf he hl
      go_enter Tryd.func33, Tryd.ntmps33
      go_wp2
      go_ret2
      exact ⟨by rw [HF.out]; rfl, Below.refl _ _⟩
    · have hf : numL s.data.toList base most = (numGo s.data.toList base 0).map fun x => (Utf8.encode (runeOf x : Nat)).data.toList := by
        unfold numL; rw [if_neg (fun h => h.elim he (fun h => hlong (by rw [hl] at h; exact h)))]
      have HF := Aside0.mk hf
      have d1 : decide ((most : Int) < (s.size : Int)) = false := decide_eq_false (by omega)
      have d2 : decide (most < s.size) = false := decide_eq_false hlong
      have HL := Aside0.mk hl
      have hs7 : s.size ≤ 7 := by omega
      clear hf he hl hlong
      go_enter Tryd.func33, Tryd.ntmps33
      go_wp2
      clear d1 d2 hne
      go_loopw [8, 21] (fun x i wr => ∃ (k y : Nat), k ≤ s.size ∧ x = .int .i64 (y : Int) ∧ i = .int .i64 (k : Int) ∧ y < 16 ^ k ∧ wr = w ∧ numGo s.data.toList base 0 = numGo (s.data.toList.drop k) base y)
        (fun _ i _ => s.size - (RowKit.intOf i).toNat)
      case atStart => exact ⟨0, 0, Nat.zero_le _, rfl, rfl, by decide, rfl, rfl⟩
      case round =>
        obtain ⟨k, y, hk, rfl, rfl, hy, rfl, hg⟩ := hrel
        by_cases hlt : k < s.size
        · have hcons : s.data.toList.drop k = s[k] :: s.data.toList.drop (k + 1) := by
            rw [List.drop_eq_getElem_cons (by rw [HL.out]; exact hlt)]; rfl
          rw [hcons] at hg
          rw [numGo_cons] at hg
          obtain ⟨d, hd⟩ : ∃ d, digN (s[k]).toNat base = d := ⟨_, rfl⟩
          have hc := digit_calls (s[k]).toNat base wr
          rw [hd] at hg hc
          have HC := Aside0.mk hc
          clear hc hd hcons
          by_cases hge : base ≤ d
          · rw [if_pos hge] at hg
            have hfin : numL s.data.toList base most = none := by rw [HF.out, hg]; rfl
            have HG := Aside0.mk hfin
            have d1 : decide ((base : Int) ≤ (d : Int)) = true := decide_eq_true (by omega)
            have d2 : decide (base ≤ d) = true := decide_eq_true hge
            clear hg hfin HF HL hge
            go_wp2_with (go_at_call 42; refine HC.out.mono ?_; rintro e w1 ⟨rfl, rfl⟩)
            go_ret2
            exact ⟨by rw [HG.out]; rfl, Below.refl _ _⟩
          · rw [if_neg hge] at hg
            have HG := Aside0.mk hg
            have d1 : decide ((base : Int) ≤ (d : Int)) = false := decide_eq_false (by omega)
            have d2 : decide (base ≤ d) = false := decide_eq_false hge
            have hpow : 16 ^ k ≤ 16 ^ 6 := Nat.pow_le_pow_right (by decide) (by omega)
            have hy2 : y < 16777216 := Nat.lt_of_lt_of_le hy hpow
            have hyb : y * base ≤ 16777215 * 16 := Nat.mul_le_mul (by omega) (by omega)
            have hstep : y * base + d < 16 ^ (k + 1) := by
              have h1 : y * base + base ≤ 16 ^ k * 16 := by
                have : (y + 1) * base ≤ 16 ^ k * 16 := Nat.mul_le_mul (by omega) (by omega)
                rwa [Nat.add_mul, Nat.one_mul] at this
              rw [Nat.pow_succ]; omega
            have HP := Aside0.mk hstep
            have m0 : (0 : Int) ≤ (y : Int) * (base : Int) := Int.mul_nonneg (by omega) (by omega)
            have m1 : (y : Int) * (base : Int) ≤ 268435440 := by
              have : ((y * base : Nat) : Int) ≤ ((16777215 * 16 : Nat) : Int) := by exact_mod_cast hyb
              rw [Int.natCast_mul] at this; omega
            clear hg HF hpow hyb hstep hy
            go_wp2_with (go_at_call 42; refine HC.out.mono ?_; rintro e w1 ⟨rfl, rfl⟩)
            go_roundw
            case rel => exact ⟨k + 1, y * base + d, by omega, by push_cast; rfl, by go_num, HP.out, trivial, HG.out⟩
            case measure => simp [RowKit.intOf]; omega
        · have hnil : s.data.toList.drop k = [] := List.drop_eq_nil_of_le (by rw [HL.out]; omega)
          rw [hnil] at hg
          have hfin : numL s.data.toList base most = some (Utf8.encode (runeOf y : Nat)).data.toList := by rw [HF.out, hg]; rfl
          have HG := Aside0.mk hfin
          have hpow : 16 ^ k ≤ 16 ^ 7 := Nat.pow_le_pow_right (by decide) (by omega)
          have hy2 : y < 268435456 := Nat.lt_of_lt_of_le hy hpow
          clear hg hfin HF hnil hy hpow
          have hv := Tryd.utf8_ValidRune (y : Int) wr
          by_cases h0 : y = 0
          · have c1 : ((y : Int) == 0) = true := by rw [h0]; rfl
            have hr : runeOf y = 65533 := by unfold runeOf; rw [if_pos (.inl h0)]
            rw [hr] at HG
            clear hr hv h0
            go_wp2
            go_ret2
            exact ⟨by rw [HG.out]; rfl, Below.refl _ _⟩
          · have c1 : ((y : Int) == 0) = false := by rw [beq_eq_false_iff_ne]; omega
            by_cases h1 : 1114111 < y
            · have c2 : decide ((1114111 : Int) < (y : Int)) = true := decide_eq_true (by omega)
              have hr : runeOf y = 65533 := by unfold runeOf; rw [if_pos (.inr (.inl h1))]
              rw [hr] at HG
              clear hr hv h0
              go_wp2
              go_ret2
              exact ⟨by rw [HG.out]; rfl, Below.refl _ _⟩
            · have c2 : decide ((1114111 : Int) < (y : Int)) = false := decide_eq_false (by omega)
              cases hvr : Lib.validRune (y : Int) with
              | false =>
                have hr : runeOf y = 65533 := by unfold runeOf; rw [if_pos (.inr (.inr hvr))]
                rw [hr] at HG
                rw [hvr] at hv
                have HV := Aside0.mk hv
                clear hr hv h0 hvr
                go_wp2_with (go_at_call 43; refine HV.out.mono ?_; rintro e w1 ⟨rfl, rfl⟩)
                go_ret2
                exact ⟨by rw [HG.out]; rfl, Below.refl _ _⟩
              | true =>
                have hr : runeOf y = y := by unfold runeOf; rw [if_neg (fun h => h.elim h0 (fun h => h.elim h1 (fun h => by rw [hvr] at h; cases h)))]
                rw [hr] at HG
                rw [hvr] at hv
                have HV := Aside0.mk hv
                clear hr hv h0 hvr
                go_wp2_with (go_at_call 43; refine HV.out.mono ?_; rintro e w1 ⟨rfl, rfl⟩)
                go_ret2
                exact ⟨by rw [HG.out, optV_some]; rfl, Below.refl _ _⟩

theorem beq_strings (a b : ByteArray) : (a.data.toList = b.data.toList) ↔ a = b := by
  rcases a with ⟨⟨a⟩⟩; rcases b with ⟨⟨b⟩⟩; simp

def nameT : List (List UInt8 × List UInt8) := [([97, 109, 112], [38]), ([108, 116], [60]), ([103, 116], [62]), ([113, 117, 111, 116], [34]), ([97, 112, 111, 115], [39]), ([110, 98, 115, 112], [194, 160]), ([99, 111, 112, 121], [194, 169])]
def nameIn : List (List UInt8 × List UInt8) → List UInt8 → Option (List UInt8)
  | [], _ => none
  | x :: t, l => if l = x.1 then some x.2 else nameIn t l
def nameFrom (k : Nat) (l : List UInt8) : Option (List UInt8) := nameIn (nameT.drop k) l
def nameA : Array Value := #[.string ⟨#[97, 109, 112]⟩, .string ⟨#[38]⟩, .string ⟨#[108, 116]⟩, .string ⟨#[60]⟩, .string ⟨#[103, 116]⟩, .string ⟨#[62]⟩, .string ⟨#[113, 117, 111, 116]⟩, .string ⟨#[34]⟩, .string ⟨#[97, 112, 111, 115]⟩, .string ⟨#[39]⟩, .string ⟨#[110, 98, 115, 112]⟩, .string ⟨#[194, 160]⟩, .string ⟨#[99, 111, 112, 121]⟩, .string ⟨#[194, 169]⟩]
theorem nameL_from (l : List UInt8) : nameL l = nameFrom 0 l := rfl
theorem index_arr (w : World) (cs : Array Value) (k : Nat) (hk : k < 7) : (Instr.index 63 (.agg cs) (.int .i64 (k : Int))).run Tryd.prog w = .ok (.agg (cs.extract (k * 2) (k * 2 + 2))) w := by
  have h1 : (0 : Int) ≤ k ∧ (k : Int) < (7 : Nat) := by omega
  simp [Instr.index, run_underlying Tryd.underlying63, asIntOf, part, go_sem, Tryd.isAgg62, Tryd.sizeOf62, hk]
set_option maxHeartbeats 1600000 in
theorem named_calls (s : ByteArray) (w : World) :
    Calls Tryd.prog 34 #[.string s] w fun e w' => e = .returned (optV (nameL s.data.toList)) ∧ Below w.heap.size w w' := by
  go_enter Tryd.func34, Tryd.ntmps34
  go_wp2
  go_loopw [14] (fun i wr => ∃ k : Nat, k ≤ 7 ∧ i = .int .i64 (k : Int) ∧ Below w.heap.size w wr ∧ nameL s.data.toList = nameFrom k s.data.toList)
    (fun i _ => 7 - (RowKit.intOf i).toNat)
  case atStart => exact ⟨0, by decide, rfl, Below.refl _ _, nameL_from _⟩
  case round =>
    obtain ⟨k, hk, rfl, hb, hg⟩ := hrel
    have HB := Aside0.mk hb
    have HG := Aside0.mk hg
    clear hb hg
    rcases k with _ | _ | _ | _ | _ | _ | _ | _ | k
    · have hi' : (Instr.index 63 (.agg nameA) (.int .i64 0)).run Tryd.prog wr = .ok (.agg #[.string ⟨#[97, 109, 112]⟩, .string ⟨#[38]⟩]) wr := index_arr wr nameA 0 (by decide)
      unfold nameA at hi'
      by_cases h : s.data.toList = [97, 109, 112]
      · have h1 : ([97, 109, 112] == s.toList) = true := by rw [Lib.toList_data, h]; rfl
        have hf : nameL s.data.toList = some [38] := by rw [HG.out, h]; rfl
        have HF := Aside0.mk hf
        clear hf h HG
        go_wp2
        go_ret2
        exact ⟨by rw [HF.out]; rfl, HB.out.alloc HB.out.size _⟩
      · have h1 : ([97, 109, 112] == s.toList) = false := by rw [Lib.toList_data, beq_eq_false_iff_ne]; exact fun e => h e.symm
        have hg : nameL s.data.toList = nameFrom 1 s.data.toList := by rw [HG.out]; show nameIn (([97, 109, 112], [38]) :: nameT.drop 1) s.data.toList = _; unfold nameIn; rw [if_neg h]; rfl
        have HF := Aside0.mk hg
        clear hg h HG
        go_wp2
        go_roundw
        case rel => exact ⟨1, by decide, rfl, HB.out.alloc HB.out.size _, HF.out⟩
        case measure => simp [RowKit.intOf]
    · have hi' : (Instr.index 63 (.agg nameA) (.int .i64 1)).run Tryd.prog wr = .ok (.agg #[.string ⟨#[108, 116]⟩, .string ⟨#[60]⟩]) wr := index_arr wr nameA 1 (by decide)
      unfold nameA at hi'
      by_cases h : s.data.toList = [108, 116]
      · have h1 : ([108, 116] == s.toList) = true := by rw [Lib.toList_data, h]; rfl
        have hf : nameL s.data.toList = some [60] := by rw [HG.out, h]; rfl
        have HF := Aside0.mk hf
        clear hf h HG
        go_wp2
        go_ret2
        exact ⟨by rw [HF.out]; rfl, HB.out.alloc HB.out.size _⟩
      · have h1 : ([108, 116] == s.toList) = false := by rw [Lib.toList_data, beq_eq_false_iff_ne]; exact fun e => h e.symm
        have hg : nameL s.data.toList = nameFrom 2 s.data.toList := by rw [HG.out]; show nameIn (([108, 116], [60]) :: nameT.drop 2) s.data.toList = _; unfold nameIn; rw [if_neg h]; rfl
        have HF := Aside0.mk hg
        clear hg h HG
        go_wp2
        go_roundw
        case rel => exact ⟨2, by decide, rfl, HB.out.alloc HB.out.size _, HF.out⟩
        case measure => simp [RowKit.intOf]
    · have hi' : (Instr.index 63 (.agg nameA) (.int .i64 2)).run Tryd.prog wr = .ok (.agg #[.string ⟨#[103, 116]⟩, .string ⟨#[62]⟩]) wr := index_arr wr nameA 2 (by decide)
      unfold nameA at hi'
      by_cases h : s.data.toList = [103, 116]
      · have h1 : ([103, 116] == s.toList) = true := by rw [Lib.toList_data, h]; rfl
        have hf : nameL s.data.toList = some [62] := by rw [HG.out, h]; rfl
        have HF := Aside0.mk hf
        clear hf h HG
        go_wp2
        go_ret2
        exact ⟨by rw [HF.out]; rfl, HB.out.alloc HB.out.size _⟩
      · have h1 : ([103, 116] == s.toList) = false := by rw [Lib.toList_data, beq_eq_false_iff_ne]; exact fun e => h e.symm
        have hg : nameL s.data.toList = nameFrom 3 s.data.toList := by rw [HG.out]; show nameIn (([103, 116], [62]) :: nameT.drop 3) s.data.toList = _; unfold nameIn; rw [if_neg h]; rfl
        have HF := Aside0.mk hg
        clear hg h HG
        go_wp2
        go_roundw
        case rel => exact ⟨3, by decide, rfl, HB.out.alloc HB.out.size _, HF.out⟩
        case measure => simp [RowKit.intOf]
    · have hi' : (Instr.index 63 (.agg nameA) (.int .i64 3)).run Tryd.prog wr = .ok (.agg #[.string ⟨#[113, 117, 111, 116]⟩, .string ⟨#[34]⟩]) wr := index_arr wr nameA 3 (by decide)
      unfold nameA at hi'
      by_cases h : s.data.toList = [113, 117, 111, 116]
      · have h1 : ([113, 117, 111, 116] == s.toList) = true := by rw [Lib.toList_data, h]; rfl
        have hf : nameL s.data.toList = some [34] := by rw [HG.out, h]; rfl
        have HF := Aside0.mk hf
        clear hf h HG
        go_wp2
        go_ret2
        exact ⟨by rw [HF.out]; rfl, HB.out.alloc HB.out.size _⟩
      · have h1 : ([113, 117, 111, 116] == s.toList) = false := by rw [Lib.toList_data, beq_eq_false_iff_ne]; exact fun e => h e.symm
        have hg : nameL s.data.toList = nameFrom 4 s.data.toList := by rw [HG.out]; show nameIn (([113, 117, 111, 116], [34]) :: nameT.drop 4) s.data.toList = _; unfold nameIn; rw [if_neg h]; rfl
        have HF := Aside0.mk hg
        clear hg h HG
        go_wp2
        go_roundw
        case rel => exact ⟨4, by decide, rfl, HB.out.alloc HB.out.size _, HF.out⟩
        case measure => simp [RowKit.intOf]
    · have hi' : (Instr.index 63 (.agg nameA) (.int .i64 4)).run Tryd.prog wr = .ok (.agg #[.string ⟨#[97, 112, 111, 115]⟩, .string ⟨#[39]⟩]) wr := index_arr wr nameA 4 (by decide)
      unfold nameA at hi'
      by_cases h : s.data.toList = [97, 112, 111, 115]
      · have h1 : ([97, 112, 111, 115] == s.toList) = true := by rw [Lib.toList_data, h]; rfl
        have hf : nameL s.data.toList = some [39] := by rw [HG.out, h]; rfl
        have HF := Aside0.mk hf
        clear hf h HG
        go_wp2
        go_ret2
        exact ⟨by rw [HF.out]; rfl, HB.out.alloc HB.out.size _⟩
      · have h1 : ([97, 112, 111, 115] == s.toList) = false := by rw [Lib.toList_data, beq_eq_false_iff_ne]; exact fun e => h e.symm
        have hg : nameL s.data.toList = nameFrom 5 s.data.toList := by rw [HG.out]; show nameIn (([97, 112, 111, 115], [39]) :: nameT.drop 5) s.data.toList = _; unfold nameIn; rw [if_neg h]; rfl
        have HF := Aside0.mk hg
        clear hg h HG
        go_wp2
        go_roundw
        case rel => exact ⟨5, by decide, rfl, HB.out.alloc HB.out.size _, HF.out⟩
        case measure => simp [RowKit.intOf]
    · have hi' : (Instr.index 63 (.agg nameA) (.int .i64 5)).run Tryd.prog wr = .ok (.agg #[.string ⟨#[110, 98, 115, 112]⟩, .string ⟨#[194, 160]⟩]) wr := index_arr wr nameA 5 (by decide)
      unfold nameA at hi'
      by_cases h : s.data.toList = [110, 98, 115, 112]
      · have h1 : ([110, 98, 115, 112] == s.toList) = true := by rw [Lib.toList_data, h]; rfl
        have hf : nameL s.data.toList = some [194, 160] := by rw [HG.out, h]; rfl
        have HF := Aside0.mk hf
        clear hf h HG
        go_wp2
        go_ret2
        exact ⟨by rw [HF.out]; rfl, HB.out.alloc HB.out.size _⟩
      · have h1 : ([110, 98, 115, 112] == s.toList) = false := by rw [Lib.toList_data, beq_eq_false_iff_ne]; exact fun e => h e.symm
        have hg : nameL s.data.toList = nameFrom 6 s.data.toList := by rw [HG.out]; show nameIn (([110, 98, 115, 112], [194, 160]) :: nameT.drop 6) s.data.toList = _; unfold nameIn; rw [if_neg h]; rfl
        have HF := Aside0.mk hg
        clear hg h HG
        go_wp2
        go_roundw
        case rel => exact ⟨6, by decide, rfl, HB.out.alloc HB.out.size _, HF.out⟩
        case measure => simp [RowKit.intOf]
    · have hi' : (Instr.index 63 (.agg nameA) (.int .i64 6)).run Tryd.prog wr = .ok (.agg #[.string ⟨#[99, 111, 112, 121]⟩, .string ⟨#[194, 169]⟩]) wr := index_arr wr nameA 6 (by decide)
      unfold nameA at hi'
      by_cases h : s.data.toList = [99, 111, 112, 121]
      · have h1 : ([99, 111, 112, 121] == s.toList) = true := by rw [Lib.toList_data, h]; rfl
        have hf : nameL s.data.toList = some [194, 169] := by rw [HG.out, h]; rfl
        have HF := Aside0.mk hf
        clear hf h HG
        go_wp2
        go_ret2
        exact ⟨by rw [HF.out]; rfl, HB.out.alloc HB.out.size _⟩
      · have h1 : ([99, 111, 112, 121] == s.toList) = false := by rw [Lib.toList_data, beq_eq_false_iff_ne]; exact fun e => h e.symm
        have hg : nameL s.data.toList = nameFrom 7 s.data.toList := by rw [HG.out]; show nameIn (([99, 111, 112, 121], [194, 169]) :: nameT.drop 7) s.data.toList = _; unfold nameIn; rw [if_neg h]; rfl
        have HF := Aside0.mk hg
        clear hg h HG
        go_wp2
        go_roundw
        case rel => exact ⟨7, by decide, rfl, HB.out.alloc HB.out.size _, HF.out⟩
        case measure => simp [RowKit.intOf]
    · have hf : nameL s.data.toList = none := by rw [HG.out]; rfl
      have HF := Aside0.mk hf
      clear hf HG
      go_wp2
      go_ret2
      exact ⟨by rw [HF.out]; rfl, HB.out⟩
    · omega
end Go.Proofs.YtfabijpafbhdbaaDoor.Refs
