/- (*strings.byteStringReplacer).Replace at the three breaks, walked. -/
import Derived.Test.YtfncppekjgbedaaGreatDoorReplOnce
import Derived.Test.YtfncppekjgbedaaGreatDoorShelf
import Derived.Deep.DeepCutAuto
import Derived.Deep.CutBlock
import Derived.Lib.ConvBytes
import Derived.Lib.LazyBuf
namespace Go.Proofs.YtfncppekjgbedaaGreatDoor.Sync
open Go.RowKit Go.Lib Go.Proofs.YtfncppekjgbedaaGreatDoorW.PrintWords Go.Proofs.YtfncppekjgbedaaGreatDoorW.PrintLast Go.Proofs.YtfncppekjgbedaaGreatDoorW.PrintMore
set_option linter.unusedVariables false
set_option linter.unusedSimpArgs false

def brk (b : UInt8) : Bool := b == 9 || b == 10 || b == 13
def brkN (l : List UInt8) : Nat := l.countP brk
def dropS (s : ByteArray) : ByteArray := ⟨(s.data.toList.filter fun b => !brk b).toArray⟩
theorem brkN_cons (b : UInt8) (l : List UInt8) : brkN (b :: l) = brkN l + (if brk b = true then 1 else 0) := by unfold brkN; rw [List.countP_cons]
theorem brkN_sum (l : List UInt8) : brkN l = l.count 13 + l.count 10 + l.count 9 := by
  induction l with
  | nil => rfl
  | cons b l ih =>
    rw [brkN_cons, ih, List.count_cons, List.count_cons, List.count_cons]
    unfold brk
    by_cases h1 : b = 13
    · subst h1; simp; omega
    · by_cases h2 : b = 10
      · subst h2; simp; omega
      · by_cases h3 : b = 9
        · subst h3; simp; omega
        · simp [h1, h2, h3]
theorem brk_nat (b : UInt8) : brk b = true ↔ b.toNat ∈ goneB 3 := by
  have h : ∀ n : Nat, n < 256 → (brk (UInt8.ofNat n) = true ↔ n ∈ goneB 3) := by decide +kernel
  have := h b.toNat b.toNat_lt
  rwa [UInt8.ofNat_toNat] at this
theorem brkN_take (l : List UInt8) (i : Nat) (h : i < l.length) : brkN (l.take (i + 1)) = brkN (l.take i) + (if brk l[i] = true then 1 else 0) := by
  rw [List.take_succ_eq_append_getElem h]; unfold brkN; rw [List.countP_append, List.countP_singleton]
theorem brkN_le (l : List UInt8) : brkN l ≤ l.length := List.countP_le_length
theorem filter_len (l : List UInt8) : (l.filter fun b => !brk b).length + brkN l = l.length := by
  induction l with
  | nil => rfl
  | cons b l ih =>
    rw [List.filter_cons, brkN_cons, List.length_cons]
    by_cases h : brk b = true
    · rw [if_neg (by simp [h]), if_pos h]; omega
    · rw [if_pos (by simpa using h), if_neg h, List.length_cons]; omega
theorem filter_none (s : ByteArray) (h : brkN s.data.toList = 0) : dropS s = s := by
  unfold dropS
  have : (s.data.toList.filter fun b => !brk b) = s.data.toList := by
    rw [List.filter_eq_self]
    intro b hb
    unfold brkN at h
    rw [List.countP_eq_zero] at h
    simpa using h b hb
  rw [this]
def pre (l : List UInt8) : Nat → Nat
  | 0 => 0
  | 1 => l.count 13
  | 2 => l.count 13 + l.count 10
  | _ => l.count 13 + l.count 10 + l.count 9
theorem gone_at {w : World} {g : Nat} (h : Kd.C Kd.string w (some ⟨g, 0, none⟩) 3 (gone 3)) : w.cell? ⟨g, 0, none⟩ = some (.string ⟨#[13]⟩) ∧ w.cell? ⟨g, 1, none⟩ = some (.string ⟨#[10]⟩) ∧ w.cell? ⟨g, 2, none⟩ = some (.string ⟨#[9]⟩) := by
  have key : ∀ (j : Nat) (p : ByteArray), (gone 3)[j]? = some p → w.cell? ⟨g, j, none⟩ = some (.string p) := by
    intro j p hj
    obtain ⟨_, _, h3⟩ := h
    obtain ⟨ad, e, h4⟩ := h3 (by decide)
    cases e
    obtain ⟨c, h5, h6, h7⟩ := h4 j p hj
    have h8 : c = [.string p] := h6
    subst h8
    have := h7 0 _ rfl
    rw [show Kd.sz Kd.string = 1 from rfl, Nat.mul_one, Nat.add_zero] at this
    have e2 : (⟨g, 0, none⟩ : Addr).add j = ⟨g, j, none⟩ := by simp [Addr.add]; intro h; exact h.symm
    rwa [e2] at this
  exact ⟨key 0 _ rfl, key 1 _ rfl, key 2 _ rfl⟩
theorem pre_le (s : ByteArray) (k : Nat) : pre s.data.toList k ≤ s.size := by
  have h1 := brkN_sum s.data.toList
  have h2 := brkN_le s.data.toList
  have hl : s.data.toList.length = s.size := rfl
  rcases k with _ | _ | _ | k <;> simp only [pre] <;> omega
def fl (s : ByteArray) (k : Nat) : List UInt8 := (s.data.toList.take k).filter fun b => !brk b
theorem fl_next (s : ByteArray) (k : Nat) (h : k < s.data.toList.length) : fl s (k + 1) = if brk s.data.toList[k] = true then fl s k else fl s k ++ [s.data.toList[k]] := by
  unfold fl
  rw [List.take_succ_eq_append_getElem h, List.filter_append]
  obtain ⟨x, hx⟩ : ∃ x, s.data.toList[k] = x := ⟨_, rfl⟩
  rw [hx]
  by_cases hq : brk x = true
  · rw [if_pos hq]; simp [List.filter_cons, hq]
  · rw [if_neg hq]; simp [List.filter_cons, hq]
theorem fl_le (s : ByteArray) (k : Nat) : (fl s k).length ≤ s.size - brkN s.data.toList := by
  have h1 := filter_len s.data.toList
  have h2 : s.data.toList.filter (fun b => !brk b) = fl s k ++ (s.data.toList.drop k).filter (fun b => !brk b) := by
    unfold fl; rw [← List.filter_append, List.take_append_drop]
  rw [h2, List.length_append] at h1
  have hl : s.data.toList.length = s.size := rfl
  omega
theorem set_take {xs : List Int} {l : List UInt8} {x : UInt8} (h : xs.take l.length = l.map fun b => (b.toNat : Int)) (hl : l.length < xs.length) : (xs.set l.length (x.toNat : Int)).take (l ++ [x]).length = (l ++ [x]).map fun b => (b.toNat : Int) := by
  rw [List.length_append, List.length_singleton, List.take_succ_eq_append_getElem (by rw [List.length_set]; exact hl), List.getElem_set_self, List.take_set_of_le (Nat.le_refl _), h, List.map_append]; rfl
theorem C_own {w : World} {B n c e : Nat} {A : Option Addr} {xs : List Int} (h : w.ownsRow B e 1 (.slice A n c) n (nums .u8 xs)) : Kd.C (Kd.int .u8) w A n xs := by
  have hl : xs.length = n := by have := h.1; simp [nums] at this; exact this
  have hR : Kd.R (Kd.int .u8) e w B (fun _ => True) (.slice A n c) xs := Kd.R_of_own (enc := Value.int .u8) (h1 := fun _ => rfl) (by rw [hl]; exact h) (fun _ _ => trivial)
  have := (Kd.R_reads' hR).2.2
  rwa [hl] at this
theorem strOfNums_bytes2 (l : List UInt8) : strOfNums (l.map fun b => (b.toNat : Int)) = ⟨l.toArray⟩ := by
  have ext : ∀ a b : ByteArray, a.data.toList = b.data.toList → a = b := fun a b h => by
    cases a; cases b; congr; exact Array.toList_inj.1 h
  apply ext
  rw [strOfNums_data, List.map_map]
  show _ = l
  conv => rhs; rw [← List.map_id l]
  refine List.map_congr_left fun b _ => ?_
  show UInt8.ofNat ((b.toNat : Int).toNat) = b
  rw [Int.toNat_natCast, UInt8.ofNat_toNat]
set_option maxRecDepth 100000 in
set_option maxHeartbeats 3200000 in
theorem do_calls (c : Nat) (v : Value) (B : Nat) (s : ByteArray) (w : World) (hA : RepBlk c (goneB 3) v w) (hR : Kd.R Kd.string 9 w B (fun _ => True) v (gone 3)) (hs : s.size ≤ 140737488355328) :
    Calls Tryz.prog 108 #[.pointer (some ⟨c, 0, none⟩), .string s] w fun e w' => e = .returned (.string (dropS s)) ∧ Below w.heap.size w w' := by
  have hl : s.data.toList.length = s.size := rfl
  obtain ⟨g, cv, ev, _⟩ := Kd.R_form hR (by decide)
  replace ev : v = .slice (some ⟨g, 0, none⟩) 3 cv := ev
  subst ev
  obtain ⟨hg0, hg1, hg2⟩ := gone_at (Kd.R_reads' hR).2.2
  have HA := Aside0.mk hA
  have HG := Aside0.mk (And.intro hg0 (And.intro hg1 hg2))
  have HL := Aside0.mk hl
  have x256 := hA.row
  obtain ⟨nw, hnw⟩ : ∃ nw : Nat, s.size - brkN s.data.toList = nw := ⟨_, rfl⟩
  have hle : brkN s.data.toList ≤ s.size := by have := brkN_le s.data.toList; omega
  have HNW := Aside0.mk (show (s.size : Int) - (brkN s.data.toList : Int) = (nw : Int) by omega)
  have HLE := Aside0.mk hle
  obtain ⟨any, hany⟩ : ∃ any : Bool, decide (brkN s.data.toList ≠ 0) = any := ⟨_, rfl⟩
  have HANY := Aside0.mk hany
  clear hA hR hg0 hg1 hg2 hl hnw hle hany
  go_enter Tryz.func108, Tryz.ntmps108
  go_upto_if 26 with (fail)
  go_cut [5, 6] (fun v5 v6 wc => v5 = .int .i64 nw ∧ v6 = .bool any ∧ Aside0 (Drawn0 w wc))
  case first =>
    have HD0 := Aside0.mk (Drawn0.refl w)
    by_cases h24 : 24 ≤ s.size
    · have hz : decide ((24 : Int) ≤ (s.size : Int)) = true := decide_eq_true (by omega)
      simp only [hz]
      clear hz h24
      go_wp2_with (fail)
      go_loopg [5, 6, 32] 3 (fun gg v5 v6 i wr => ∃ (k : Nat) (m : Int) (b : Bool), k ≤ 3 ∧ Aside0 (gg = 3 - k) ∧ i = .int .i64 k ∧ v5 = .int .i64 m ∧ v6 = .bool b ∧ Aside0 (m = (s.size : Int) - (pre s.data.toList k : Int)) ∧ Aside0 (b = decide (pre s.data.toList k ≠ 0)) ∧ Aside0 (Drawn0 w wr))
      case atStart => exact ⟨0, _, _, by decide, ⟨rfl⟩, rfl, rfl, rfl, ⟨by simp [pre]⟩, ⟨rfl⟩, HD0⟩
      case round =>
        clear HD0
        obtain ⟨k, m, b, hk, HK, rfl, rfl, rfl, HM, HBb, HD⟩ := hrel
        rcases k with _ | _ | _ | _ | k
        · replace HM : Aside0 (m = (s.size : Int) - (pre s.data.toList 0 : Int)) := HM
          replace HBb : Aside0 (b = decide (pre s.data.toList 0 ≠ 0)) := HBb
          have x1 := pw_cell_below HD.out.below HG.out.1
          have x2 := pw_cell_below HD.out.below x256
          obtain ⟨a0, k0, y0⟩ := (HA.out.below HD.out.below).cellD 13 (by decide) (by decide)
          have HCt := Aside0.mk (Tryz.strings_Count_one s 13 wr)
          have b13 : ∀ h : 0 < (⟨#[13]⟩ : ByteArray).size, ((⟨#[13]⟩ : ByteArray)[0]'h).toNat = 13 := fun _ => rfl
          have hpre : pre s.data.toList 1 = pre s.data.toList 0 + s.data.toList.count 13 := by simp [pre]
          obtain ⟨cnt, hcnt⟩ : ∃ cnt, Lib.countByte s.data.toList 13 = cnt := ⟨_, rfl⟩
          have hcn2 : s.data.toList.count 13 = cnt := hcnt
          rw [hcn2] at hpre
          rw [hcnt] at HCt
          have HP := Aside0.mk hpre
          have HQ := Aside0.mk (pre_le s 1)
          clear hcnt hcn2 hpre
          by_cases h0 : cnt = 0
          · subst h0
            go_wp2_with (go_at_call 110; refine HCt.out.mono ?_; rintro e w2 ⟨rfl, rfl⟩)
            go_roundg 2
            case rel => exact ⟨1, m, b, by decide, ⟨rfl⟩, rfl, rfl, rfl, ⟨by rw [HM.out, HP.out, Nat.add_zero]⟩, ⟨by rw [HBb.out, HP.out, Nat.add_zero]⟩, HD⟩
            case measure => have := HK.out; omega
          · have hz1 : ((cnt : Int) == 0) = false := by simpa using h0
            have hz2 : ¬ ((cnt : Int) = 0) := by omega
            have HZ := Aside0.mk h0
            have hm1 : IntKind.i64.wrap ((cnt : Int) * -1) = -(cnt : Int) := by rw [Int.mul_neg_one]; exact IntWalk.i64_in _ (by have := HP.out; have := HQ.out; omega)
            have hm2 : IntKind.i64.wrap (m + -(cnt : Int)) = m + -(cnt : Int) := IntWalk.i64_in _ (by have := HP.out; have := HQ.out; have := HM.out; have := pre_le s 0; have := pre_le s 1; have := pre_le s 2; omega)
            clear h0
            go_wp2_with (go_at_call 110; refine HCt.out.mono ?_; rintro e w2 ⟨rfl, rfl⟩)
            go_quiet (fail)
            go_wp2
            go_roundg 2
            case rel => exact ⟨1, _, true, by decide, ⟨rfl⟩, rfl, rfl, rfl, ⟨by have := HP.out; have := HQ.out; have := HM.out; unfold wrap64; omega⟩, ⟨(decide_eq_true (by have := HP.out; have := HZ.out; omega)).symm⟩, ⟨HD.out.step _⟩⟩
            case measure => have := HK.out; omega
        · replace HM : Aside0 (m = (s.size : Int) - (pre s.data.toList 1 : Int)) := HM
          replace HBb : Aside0 (b = decide (pre s.data.toList 1 ≠ 0)) := HBb
          have x1 := pw_cell_below HD.out.below HG.out.2.1
          have x2 := pw_cell_below HD.out.below x256
          obtain ⟨a0, k0, y0⟩ := (HA.out.below HD.out.below).cellD 10 (by decide) (by decide)
          have HCt := Aside0.mk (Tryz.strings_Count_one s 10 wr)
          have b13 : ∀ h : 0 < (⟨#[10]⟩ : ByteArray).size, ((⟨#[10]⟩ : ByteArray)[0]'h).toNat = 10 := fun _ => rfl
          have hpre : pre s.data.toList 2 = pre s.data.toList 1 + s.data.toList.count 10 := by simp [pre]
          obtain ⟨cnt, hcnt⟩ : ∃ cnt, Lib.countByte s.data.toList 10 = cnt := ⟨_, rfl⟩
          have hcn2 : s.data.toList.count 10 = cnt := hcnt
          rw [hcn2] at hpre
          rw [hcnt] at HCt
          have HP := Aside0.mk hpre
          have HQ := Aside0.mk (pre_le s 2)
          clear hcnt hcn2 hpre
          by_cases h0 : cnt = 0
          · subst h0
            go_wp2_with (go_at_call 110; refine HCt.out.mono ?_; rintro e w2 ⟨rfl, rfl⟩)
            go_roundg 1
            case rel => exact ⟨2, m, b, by decide, ⟨rfl⟩, rfl, rfl, rfl, ⟨by rw [HM.out, HP.out, Nat.add_zero]⟩, ⟨by rw [HBb.out, HP.out, Nat.add_zero]⟩, HD⟩
            case measure => have := HK.out; omega
          · have hz1 : ((cnt : Int) == 0) = false := by simpa using h0
            have hz2 : ¬ ((cnt : Int) = 0) := by omega
            have HZ := Aside0.mk h0
            have hm1 : IntKind.i64.wrap ((cnt : Int) * -1) = -(cnt : Int) := by rw [Int.mul_neg_one]; exact IntWalk.i64_in _ (by have := HP.out; have := HQ.out; omega)
            have hm2 : IntKind.i64.wrap (m + -(cnt : Int)) = m + -(cnt : Int) := IntWalk.i64_in _ (by have := HP.out; have := HQ.out; have := HM.out; have := pre_le s 0; have := pre_le s 1; have := pre_le s 2; omega)
            clear h0
            go_wp2_with (go_at_call 110; refine HCt.out.mono ?_; rintro e w2 ⟨rfl, rfl⟩)
            go_quiet (fail)
            go_wp2
            go_roundg 1
            case rel => exact ⟨2, _, true, by decide, ⟨rfl⟩, rfl, rfl, rfl, ⟨by have := HP.out; have := HQ.out; have := HM.out; unfold wrap64; omega⟩, ⟨(decide_eq_true (by have := HP.out; have := HZ.out; omega)).symm⟩, ⟨HD.out.step _⟩⟩
            case measure => have := HK.out; omega
        · replace HM : Aside0 (m = (s.size : Int) - (pre s.data.toList 2 : Int)) := HM
          replace HBb : Aside0 (b = decide (pre s.data.toList 2 ≠ 0)) := HBb
          have x1 := pw_cell_below HD.out.below HG.out.2.2
          have x2 := pw_cell_below HD.out.below x256
          obtain ⟨a0, k0, y0⟩ := (HA.out.below HD.out.below).cellD 9 (by decide) (by decide)
          have HCt := Aside0.mk (Tryz.strings_Count_one s 9 wr)
          have b13 : ∀ h : 0 < (⟨#[9]⟩ : ByteArray).size, ((⟨#[9]⟩ : ByteArray)[0]'h).toNat = 9 := fun _ => rfl
          have hpre : pre s.data.toList 3 = pre s.data.toList 2 + s.data.toList.count 9 := by simp [pre]
          obtain ⟨cnt, hcnt⟩ : ∃ cnt, Lib.countByte s.data.toList 9 = cnt := ⟨_, rfl⟩
          have hcn2 : s.data.toList.count 9 = cnt := hcnt
          rw [hcn2] at hpre
          rw [hcnt] at HCt
          have HP := Aside0.mk hpre
          have HQ := Aside0.mk (pre_le s 3)
          clear hcnt hcn2 hpre
          by_cases h0 : cnt = 0
          · subst h0
            go_wp2_with (go_at_call 110; refine HCt.out.mono ?_; rintro e w2 ⟨rfl, rfl⟩)
            go_roundg 0
            case rel => exact ⟨3, m, b, by decide, ⟨rfl⟩, rfl, rfl, rfl, ⟨by rw [HM.out, HP.out, Nat.add_zero]⟩, ⟨by rw [HBb.out, HP.out, Nat.add_zero]⟩, HD⟩
            case measure => have := HK.out; omega
          · have hz1 : ((cnt : Int) == 0) = false := by simpa using h0
            have hz2 : ¬ ((cnt : Int) = 0) := by omega
            have HZ := Aside0.mk h0
            have hm1 : IntKind.i64.wrap ((cnt : Int) * -1) = -(cnt : Int) := by rw [Int.mul_neg_one]; exact IntWalk.i64_in _ (by have := HP.out; have := HQ.out; omega)
            have hm2 : IntKind.i64.wrap (m + -(cnt : Int)) = m + -(cnt : Int) := IntWalk.i64_in _ (by have := HP.out; have := HQ.out; have := HM.out; have := pre_le s 0; have := pre_le s 1; have := pre_le s 2; omega)
            clear h0
            go_wp2_with (go_at_call 110; refine HCt.out.mono ?_; rintro e w2 ⟨rfl, rfl⟩)
            go_quiet (fail)
            go_wp2
            go_roundg 0
            case rel => exact ⟨3, _, true, by decide, ⟨rfl⟩, rfl, rfl, rfl, ⟨by have := HP.out; have := HQ.out; have := HM.out; unfold wrap64; omega⟩, ⟨(decide_eq_true (by have := HP.out; have := HZ.out; omega)).symm⟩, ⟨HD.out.step _⟩⟩
            case measure => have := HK.out; omega
        · replace HM : Aside0 (m = (s.size : Int) - (pre s.data.toList 3 : Int)) := HM
          replace HBb : Aside0 (b = decide (pre s.data.toList 3 ≠ 0)) := HBb
          have hm : m = nw := by have := HM.out; have := HNW.out; have := brkN_sum s.data.toList; simp only [pre] at *; omega
          have hb : b = any := by rw [HBb.out, ← HANY.out, brkN_sum]; simp only [pre]
          subst hm; subst hb
          go_wp2
          go_meet
          exact ⟨rfl, rfl, HD⟩
        · omega
    · have hz : decide ((24 : Int) ≤ (s.size : Int)) = false := decide_eq_false (by omega)
      simp only [hz]
      clear hz h24
      go_wp2
      go_loopg [5, 6, 10] s.size (fun gg v5 v6 i wr => ∃ (k : Nat) (m : Int) (b : Bool), k ≤ s.size ∧ Aside0 (gg = s.size - k) ∧ i = .int .i64 k ∧ v5 = .int .i64 m ∧ v6 = .bool b ∧ Aside0 (m = (s.size : Int) - (brkN (s.data.toList.take k) : Int)) ∧ Aside0 (b = decide (brkN (s.data.toList.take k) ≠ 0)) ∧ Aside0 (Drawn0 w wr))
      case atStart => exact ⟨0, _, _, Nat.zero_le _, ⟨rfl⟩, rfl, rfl, rfl, ⟨by simp [brkN]⟩, ⟨rfl⟩, HD0⟩
      case round =>
        clear HD0
        obtain ⟨k, m, b, hk, HK, rfl, rfl, rfl, HM, HBb, HD⟩ := hrel
        by_cases hlt : k < s.size
        · have hkl : k < s.data.toList.length := hlt
          have htk := brkN_take s.data.toList k hkl
          have hle : brkN (s.data.toList.take (k + 1)) ≤ s.size := by have := brkN_le (s.data.toList.take (k + 1)); rw [List.length_take] at this; have := HL.out; omega
          have HLE2 := Aside0.mk hle
          obtain ⟨x, hx⟩ : ∃ x : UInt8, (s[k]'hlt) = x := ⟨_, rfl⟩
          have hxl : s.data.toList[k] = x := hx
          rw [hxl] at htk
          have hx256 : (x.toNat : Int) < 256 := by have := x.toNat_lt; omega
          have hz : (k : Int) < (s.size : Int) := by omega
          have hx2 : x.toNat < 256 := x.toNat_lt
          by_cases hq : brk x = true
          · rw [if_pos hq] at htk
            have HTK := Aside0.mk htk
            obtain ⟨a0, k0, y0⟩ := (HA.out.below HD.out.below).cellD x.toNat hx2 ((brk_nat x).1 hq)
            clear hle hkl htk hq hxl hx2
            go_wp2
            go_roundg (s.size - (k + 1))
            case rel => exact ⟨k + 1, _, true, by omega, ⟨rfl⟩, by go_num, rfl, rfl, ⟨by have := HTK.out; have := HLE2.out; have := HM.out; first | (unfold wrap64; omega) | omega⟩, ⟨(decide_eq_true (by have := HTK.out; omega)).symm⟩, HD⟩
            case measure => have := HK.out; omega
          · rw [if_neg hq, Nat.add_zero] at htk
            have HTK := Aside0.mk htk
            have y0 := (HA.out.below HD.out.below).cell x.toNat hx2 (fun h => hq ((brk_nat x).2 h))
            clear hle hkl htk hq hxl hx2
            go_wp2
            go_roundg (s.size - (k + 1))
            case rel => exact ⟨k + 1, m, b, by omega, ⟨rfl⟩, by go_num, rfl, rfl, ⟨by rw [HM.out, HTK.out]; simp⟩, ⟨by rw [HBb.out, HTK.out]; simp⟩, HD⟩
            case measure => have := HK.out; omega
        · obtain rfl : k = s.size := by omega
          have e : s.data.toList.take s.size = s.data.toList := List.take_of_length_le (by rw [HL.out]; exact Nat.le_refl _)
          have hm : m = nw := by have := HM.out; have := HNW.out; rw [e] at *; omega
          have hb : b = any := by rw [HBb.out, ← HANY.out, e]
          subst hm; subst hb
          have hz : ¬ ((s.size : Int) < (s.size : Int)) := by omega
          clear hlt hk e
          go_wp2
          go_meet
          exact ⟨rfl, rfl, HD⟩
  case rest =>
    obtain ⟨rfl, rfl, HD⟩ := hcut
    clear x256 HG
    cases any with
    | false =>
      have h0 : brkN s.data.toList = 0 := by have := HANY.out; simpa using this
      have HZ := Aside0.mk (filter_none s h0)
      clear h0
      go_wp2
      go_ret
      exact ⟨by rw [HZ.out]; rfl, HD.out.below⟩
    | true =>
      have hmk := print_make (P := Tryz.prog) 30 5 .u8 1 Tryz.underlying30 (by kernel_rfl) (by decide) nw (by have := HNW.out; omega)
      have HO := Aside0.mk (own_made wc w.heap.size 5 .u8 nw HD.out.below.size (by have := HNW.out; omega))
      have HB := Aside0.mk (HD.out.below.alloc HD.out.below.size (.cells (madeCells #[.int .u8 0] nw) 5))
      have HGB := Aside0.mk HD.out.below.size
      go_wp2
      clear hmk
      obtain ⟨g2, hg2⟩ : ∃ g2, wc.heap.size = g2 := ⟨_, rfl⟩
      rw [hg2] at HO HGB ⊢
      clear hg2
      have HA0 := Aside0.mk HA.out
      go_loopg [13, 14] s.size (fun gg v13 v14 wr => ∃ (k : Nat) (xs : List Int), k ≤ s.size ∧ Aside0 (gg = s.size - k) ∧ v14 = .int .i64 k ∧ v13 = .int .i64 (fl s k).length ∧ Aside0 (xs.length = nw) ∧ Aside0 (xs.take (fl s k).length = (fl s k).map fun b => (b.toNat : Int)) ∧ Aside0 (wr.ownsRow w.heap.size 5 1 (.slice (some ⟨g2, 0, none⟩) nw nw) nw (nums .u8 xs)) ∧ Aside0 (Below w.heap.size w wr))
      case atStart => exact ⟨0, _, Nat.zero_le _, ⟨rfl⟩, rfl, rfl, ⟨by simp⟩, ⟨rfl⟩, HO, HB⟩
      case round =>
        clear HO HB HD
        obtain ⟨k, xs, hk, HK, rfl, rfl, HXL, HX, HO, HB⟩ := hrel
        by_cases hlt : k < s.size
        · have hkl : k < s.data.toList.length := hlt
          have hfl := fl_next s k hkl
          have hfle := fl_le s (k + 1)
          obtain ⟨x, hx⟩ : ∃ x : UInt8, (s[k]'hlt) = x := ⟨_, rfl⟩
          have hxl : s.data.toList[k] = x := hx
          rw [hxl] at hfl
          have hx256 : (x.toNat : Int) < 256 := by have := x.toNat_lt; omega
          have hz : (k : Int) < (s.size : Int) := by omega
          have hx2 : x.toNat < 256 := x.toNat_lt
          by_cases hq : brk x = true
          · rw [if_pos hq] at hfl
            have HFL := Aside0.mk hfl
            obtain ⟨a0, k0, y0⟩ := (HA.out.below HB.out).cellD x.toNat hx2 ((brk_nat x).1 hq)
            have hcp : ∀ (w : World) (d : Option Addr) (dLen dCap : Nat), (Builtin.copy_ #[30, 30] 3 #[.slice d dLen dCap, .slice (some a0) 0 k0]).run Tryz.prog w = .ok (goInt 0) w := fun w d dLen dCap => run_copy_none w 30 30 3 5 d (some a0) dLen dCap 0 k0 Tryz.underlying30 (by kernel_rfl) (Nat.zero_min _)
            have hjn : (fl s k).length ≤ nw := by have := fl_le s k; have := HNW.out; omega
            have HFS := Aside0.mk (show (fl s k).length ≤ 140737488355328 by have := fl_le s k; omega)
            clear hfl hfle hkl hq hxl hx2
            by_cases hE : (fl s k).length = nw
            · have HE := Aside0.mk hE
              have p0 : (0 : Int) ≤ (nw : Int) := by omega
              clear hjn
              go_wp2
              go_quiet (fail)
              go_wp2
              go_roundg (s.size - (k + 1))
              case rel => exact ⟨k + 1, xs, by omega, ⟨rfl⟩, by go_num, by rw [HFL.out, HE.out]; exact congrArg (Value.int .i64) (by have := HFS.out; have := HE.out; unfold wrap64; omega), HXL, ⟨by rw [HFL.out]; exact HX.out⟩, ⟨pw_own_drewN HO.out _⟩, ⟨pw_below_drewN HB.out _⟩⟩
              case measure => have := HK.out; omega
            · have p0 : (0 : Int) ≤ ((fl s k).length : Int) := by omega
              have p1 : ((fl s k).length : Int) < (nw : Int) := by omega
              have p2 : (fl s k).length < nw := by omega
              clear hjn hE
              go_wp2
              go_quiet (fail)
              go_wp2
              go_roundg (s.size - (k + 1))
              case rel => exact ⟨k + 1, xs, by omega, ⟨rfl⟩, by go_num, by rw [HFL.out]; exact congrArg (Value.int .i64) (by have := HFS.out; unfold wrap64; omega), HXL, ⟨by rw [HFL.out]; exact HX.out⟩, ⟨pw_own_drewN HO.out _⟩, ⟨pw_below_drewN HB.out _⟩⟩
              case measure => have := HK.out; omega
          · rw [if_neg hq] at hfl
            have HFL := Aside0.mk hfl
            have y0 := (HA.out.below HB.out).cell x.toNat hx2 (fun h => hq ((brk_nat x).2 h))
            have hjn : (fl s k).length < nw := by rw [hfl, List.length_append, List.length_singleton] at hfle; have := HNW.out; omega
            have p0 : (0 : Int) ≤ ((fl s k).length : Int) := by omega
            have p1 : ((fl s k).length : Int) < (nw : Int) := by omega
            obtain ⟨o1, o2⟩ := own_at HO.out ((fl s k).length : Int) p0 p1
            rw [Int.toNat_natCast] at o1 o2
            have hst := (own_store HO.out ((fl s k).length : Int) (x.toNat : Int)).1
            rw [Int.toNat_natCast] at hst
            have HST := Aside0.mk hst
            have HFS := Aside0.mk (show (fl s k).length < 140737488355328 by have := HNW.out; omega)
            have HJN := Aside0.mk hjn
            clear hst hfl hfle hkl hq hxl hx2 hjn
            go_wp2
            go_roundg (s.size - (k + 1))
            case rel => exact ⟨k + 1, _, by omega, ⟨rfl⟩, by go_num, by rw [HFL.out, List.length_append, List.length_singleton]; exact congrArg (Value.int .i64) (by have := HFS.out; unfold wrap64; omega), ⟨by rw [List.length_set]; exact HXL.out⟩, ⟨by rw [HFL.out]; exact set_take HX.out (by rw [HXL.out]; exact HJN.out)⟩, ⟨HST.out⟩, ⟨HB.out.setCell HGB.out _⟩⟩
            case measure => have := HK.out; omega
        · obtain rfl : k = s.size := by omega
          have hz : ¬ ((s.size : Int) < (s.size : Int)) := by omega
          have e : s.data.toList.take s.size = s.data.toList := List.take_of_length_le (by rw [HL.out]; exact Nat.le_refl _)
          have hxs : xs = (s.data.toList.filter fun b => !brk b).map fun b => (b.toNat : Int) := by
            have h1 := HX.out
            have h2 := filter_len s.data.toList
            have h3 := HXL.out
            have h4 := HNW.out
            have h5 := HL.out
            unfold fl at h1
            rw [e] at h1
            rw [← h1, List.take_of_length_le (by omega)]
          have hcs := Kd.C_string (P := Tryz.prog) (w := wr) (src := 30) (dst := 9) (e := 5) (A := some ⟨g2, 0, none⟩) (n := nw) (c := nw) (xs := xs) Tryz.underlying30 Tryz.underlying5 Tryz.underlying9 (C_own HO.out)
          rw [hxs, strOfNums_bytes2] at hcs
          clear hlt hk e hxs
          go_wp2
          go_ret
          exact ⟨rfl, HB.out⟩
end Go.Proofs.YtfncppekjgbedaaGreatDoor.Sync
