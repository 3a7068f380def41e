/- (*strings.byteStringReplacer).Replace at the three breaks, walked. strings.Replacer at the three breaks: Replace; url.drop. utf.LowerByte and utf.Lower: what they answer. url's sets of bytes: has, of. url.of: a set of signs, walked. url.written: walked. url.Scheme: walked. url.Scheme in the print's form, for pages. -/
import Derived.Test.YtfmcdlbbbmeolaaGreatDoorU0
import Derived.Test.YtfmcdlbbbmeolaaGreatDoorU16
import Derived.Deep.DeepCutAuto
import Derived.Deep.CutBlock
import Derived.Lib.ConvBytes
import Derived.Lib.LazyBuf
import Derived.Laws.IdiomStrings
import Derived.Test.YtfmcdlbbbmeolaaGreatDoorU2
import Derived.StillTailTactics
import Derived.Test.YtfmcdlbbbmeolaaGreatDoorU15
section
namespace Go.Proofs.YtfmcdlbbbmeolaaGreatDoor.Sync
open Go.RowKit Go.Lib Go.Proofs.YtfmcdlbbbmeolaaGreatDoorW.PrintWords Go.Proofs.YtfmcdlbbbmeolaaGreatDoorW.PrintLast Go.Proofs.YtfmcdlbbbmeolaaGreatDoorW.PrintMore
set_option linter.unusedVariables false
set_option linter.unusedSimpArgs false
def brk (b : UInt8) : Bool := b == 9 || b == 10 || b == 13
def brkN (l : List UInt8) : Nat := l.countP brk
def dropS (s : ByteArray) : ByteArray := ⟨(s.data.toList.filter fun b => !brk b).toArray⟩
theorem brkN_cons (b : UInt8) (l : List UInt8) : brkN (b :: l) = brkN l + (if brk b = true then 1 else 0) := by unfold brkN; rw [List.countP_cons]
theorem brkN_sum (l : List UInt8) : brkN l = l.count 13 + l.count 10 + l.count 9 := by
  induction l with
  | nil => rfl
  | cons b l ih =>
    rw [brkN_cons, ih, List.count_cons, List.count_cons, List.count_cons]
    unfold brk
    by_cases h1 : b = 13
    · subst h1; simp; omega
    · by_cases h2 : b = 10
      · subst h2; simp; omega
      · by_cases h3 : b = 9
        · subst h3; simp; omega
        · simp [h1, h2, h3]
theorem brk_nat (b : UInt8) : brk b = true ↔ b.toNat ∈ goneB 3 := by
  have h : ∀ n : Nat, n < 256 → (brk (UInt8.ofNat n) = true ↔ n ∈ goneB 3) := by decide +kernel
  have := h b.toNat b.toNat_lt
  rwa [UInt8.ofNat_toNat] at this
theorem brkN_take (l : List UInt8) (i : Nat) (h : i < l.length) : brkN (l.take (i + 1)) = brkN (l.take i) + (if brk l[i] = true then 1 else 0) := by
  rw [List.take_succ_eq_append_getElem h]; unfold brkN; rw [List.countP_append, List.countP_singleton]
theorem brkN_le (l : List UInt8) : brkN l ≤ l.length := List.countP_le_length
theorem filter_len (l : List UInt8) : (l.filter fun b => !brk b).length + brkN l = l.length := by
  induction l with
  | nil => rfl
  | cons b l ih =>
    rw [List.filter_cons, brkN_cons, List.length_cons]
    by_cases h : brk b = true
    · rw [if_neg (by simp [h]), if_pos h]; omega
    · rw [if_pos (by simpa using h), if_neg h, List.length_cons]; omega
theorem filter_none (s : ByteArray) (h : brkN s.data.toList = 0) : dropS s = s := by
  unfold dropS
  have : (s.data.toList.filter fun b => !brk b) = s.data.toList := by
    rw [List.filter_eq_self]
    intro b hb
    unfold brkN at h
    rw [List.countP_eq_zero] at h
    simpa using h b hb
  rw [this]
def pre (l : List UInt8) : Nat → Nat
  | 0 => 0
  | 1 => l.count 13
  | 2 => l.count 13 + l.count 10
  | _ => l.count 13 + l.count 10 + l.count 9
theorem gone_at {w : World} {g : Nat} (h : Kd.C Kd.string w (some ⟨g, 0, none⟩) 3 (gone 3)) : w.cell? ⟨g, 0, none⟩ = some (.string ⟨#[13]⟩) ∧ w.cell? ⟨g, 1, none⟩ = some (.string ⟨#[10]⟩) ∧ w.cell? ⟨g, 2, none⟩ = some (.string ⟨#[9]⟩) := by
  have key : ∀ (j : Nat) (p : ByteArray), (gone 3)[j]? = some p → w.cell? ⟨g, j, none⟩ = some (.string p) := by
    intro j p hj
    obtain ⟨_, _, h3⟩ := h
    obtain ⟨ad, e, h4⟩ := h3 (by decide)
    cases e
    obtain ⟨c, h5, h6, h7⟩ := h4 j p hj
    have h8 : c = [.string p] := h6
    subst h8
    have := h7 0 _ rfl
    rw [show Kd.sz Kd.string = 1 from rfl, Nat.mul_one, Nat.add_zero] at this
    have e2 : (⟨g, 0, none⟩ : Addr).add j = ⟨g, j, none⟩ := by simp [Addr.add]; intro h; exact h.symm
    rwa [e2] at this
  exact ⟨key 0 _ rfl, key 1 _ rfl, key 2 _ rfl⟩
theorem pre_le (s : ByteArray) (k : Nat) : pre s.data.toList k ≤ s.size := by
  have h1 := brkN_sum s.data.toList
  have h2 := brkN_le s.data.toList
  have hl : s.data.toList.length = s.size := rfl
  rcases k with _ | _ | _ | k <;> simp only [pre] <;> omega
def fl (s : ByteArray) (k : Nat) : List UInt8 := (s.data.toList.take k).filter fun b => !brk b
theorem fl_next (s : ByteArray) (k : Nat) (h : k < s.data.toList.length) : fl s (k + 1) = if brk s.data.toList[k] = true then fl s k else fl s k ++ [s.data.toList[k]] := by
  unfold fl
  rw [List.take_succ_eq_append_getElem h, List.filter_append]
  obtain ⟨x, hx⟩ : ∃ x, s.data.toList[k] = x := ⟨_, rfl⟩
  rw [hx]
  by_cases hq : brk x = true
  · rw [if_pos hq]; simp [List.filter_cons, hq]
  · rw [if_neg hq]; simp [List.filter_cons, hq]
theorem fl_le (s : ByteArray) (k : Nat) : (fl s k).length ≤ s.size - brkN s.data.toList := by
  have h1 := filter_len s.data.toList
  have h2 : s.data.toList.filter (fun b => !brk b) = fl s k ++ (s.data.toList.drop k).filter (fun b => !brk b) := by
    unfold fl; rw [← List.filter_append, List.take_append_drop]
  rw [h2, List.length_append] at h1
  have hl : s.data.toList.length = s.size := rfl
  omega
theorem set_take {xs : List Int} {l : List UInt8} {x : UInt8} (h : xs.take l.length = l.map fun b => (b.toNat : Int)) (hl : l.length < xs.length) : (xs.set l.length (x.toNat : Int)).take (l ++ [x]).length = (l ++ [x]).map fun b => (b.toNat : Int) := by
  rw [List.length_append, List.length_singleton, List.take_succ_eq_append_getElem (by rw [List.length_set]; exact hl), List.getElem_set_self, List.take_set_of_le (Nat.le_refl _), h, List.map_append]; rfl
theorem C_own {w : World} {B n c e : Nat} {A : Option Addr} {xs : List Int} (h : w.ownsRow B e 1 (.slice A n c) n (nums .u8 xs)) : Kd.C (Kd.int .u8) w A n xs := by
  have hl : xs.length = n := by have := h.1; simp [nums] at this; exact this
  have hR : Kd.R (Kd.int .u8) e w B (fun _ => True) (.slice A n c) xs := Kd.R_of_own (enc := Value.int .u8) (h1 := fun _ => rfl) (by rw [hl]; exact h) (fun _ _ => trivial)
  have := (Kd.R_reads' hR).2.2
  rwa [hl] at this
theorem strOfNums_bytes2 (l : List UInt8) : strOfNums (l.map fun b => (b.toNat : Int)) = ⟨l.toArray⟩ := by
  have ext : ∀ a b : ByteArray, a.data.toList = b.data.toList → a = b := fun a b h => by
    cases a; cases b; congr; exact Array.toList_inj.1 h
  apply ext
  rw [strOfNums_data, List.map_map]
  show _ = l
  conv => rhs; rw [← List.map_id l]
  refine List.map_congr_left fun b _ => ?_
  show UInt8.ofNat ((b.toNat : Int).toNat) = b
  rw [Int.toNat_natCast, UInt8.ofNat_toNat]
set_option maxRecDepth 100000 in
set_option maxHeartbeats 3200000 in
theorem do_calls (c : Nat) (v : Value) (B : Nat) (s : ByteArray) (w : World) (hA : RepBlk c (goneB 3) v w) (hR : Kd.R Kd.string 9 w B (fun _ => True) v (gone 3)) (hs : s.size ≤ 140737488355328) :
    Calls Tryz.prog 305 #[.pointer (some ⟨c, 0, none⟩), .string s] w fun e w' => e = .returned (.string (dropS s)) ∧ Below w.heap.size w w' := by
  have hl : s.data.toList.length = s.size := rfl
  obtain ⟨g, cv, ev, _⟩ := Kd.R_form hR (by decide)
  replace ev : v = .slice (some ⟨g, 0, none⟩) 3 cv := ev
  subst ev
  obtain ⟨hg0, hg1, hg2⟩ := gone_at (Kd.R_reads' hR).2.2
  have HA := Aside0.mk hA
  have HG := Aside0.mk (And.intro hg0 (And.intro hg1 hg2))
  have HL := Aside0.mk hl
  have x256 := hA.row
  obtain ⟨nw, hnw⟩ : ∃ nw : Nat, s.size - brkN s.data.toList = nw := ⟨_, rfl⟩
  have hle : brkN s.data.toList ≤ s.size := by have := brkN_le s.data.toList; omega
  have HNW := Aside0.mk (show (s.size : Int) - (brkN s.data.toList : Int) = (nw : Int) by omega)
  have HLE := Aside0.mk hle
  obtain ⟨any, hany⟩ : ∃ any : Bool, decide (brkN s.data.toList ≠ 0) = any := ⟨_, rfl⟩
  have HANY := Aside0.mk hany
  clear hA hR hg0 hg1 hg2 hl hnw hle hany
  go_enter Tryz.func305, Tryz.ntmps305
  go_upto_if 26 with (fail)
  go_cut [5, 6] (fun v5 v6 wc => v5 = .int .i64 nw ∧ v6 = .bool any ∧ Aside0 (Drawn0 w wc))
  case first =>
    have HD0 := Aside0.mk (Drawn0.refl w)
    by_cases h24 : 24 ≤ s.size
    · have hz : decide ((24 : Int) ≤ (s.size : Int)) = true := decide_eq_true (by omega)
      simp only [hz]
      clear hz h24
      go_wp2_with (fail)
      go_loopg [5, 6, 32] 3 (fun gg v5 v6 i wr => ∃ (k : Nat) (m : Int) (b : Bool), k ≤ 3 ∧ Aside0 (gg = 3 - k) ∧ i = .int .i64 k ∧ v5 = .int .i64 m ∧ v6 = .bool b ∧ Aside0 (m = (s.size : Int) - (pre s.data.toList k : Int)) ∧ Aside0 (b = decide (pre s.data.toList k ≠ 0)) ∧ Aside0 (Drawn0 w wr))
      case atStart => exact ⟨0, _, _, by decide, ⟨rfl⟩, rfl, rfl, rfl, ⟨by simp [pre]⟩, ⟨rfl⟩, HD0⟩
      case round =>
        clear HD0
        obtain ⟨k, m, b, hk, HK, rfl, rfl, rfl, HM, HBb, HD⟩ := hrel
        rcases k with _ | _ | _ | _ | k
        · replace HM : Aside0 (m = (s.size : Int) - (pre s.data.toList 0 : Int)) := HM
          replace HBb : Aside0 (b = decide (pre s.data.toList 0 ≠ 0)) := HBb
          have x1 := pw_cell_below HD.out.below HG.out.1
          have x2 := pw_cell_below HD.out.below x256
          obtain ⟨a0, k0, y0⟩ := (HA.out.below HD.out.below).cellD 13 (by decide) (by decide)
          have HCt := Aside0.mk (Tryz.strings_Count_one s 13 wr)
          have b13 : ∀ h : 0 < (⟨#[13]⟩ : ByteArray).size, ((⟨#[13]⟩ : ByteArray)[0]'h).toNat = 13 := fun _ => rfl
          have hpre : pre s.data.toList 1 = pre s.data.toList 0 + s.data.toList.count 13 := by simp [pre]
          obtain ⟨cnt, hcnt⟩ : ∃ cnt, Lib.countByte s.data.toList 13 = cnt := ⟨_, rfl⟩
          have hcn2 : s.data.toList.count 13 = cnt := hcnt
          rw [hcn2] at hpre
          rw [hcnt] at HCt
          have HP := Aside0.mk hpre
          have HQ := Aside0.mk (pre_le s 1)
          clear hcnt hcn2 hpre
          by_cases h0 : cnt = 0
          · subst h0
            go_wp2_with (go_at_call 188; refine HCt.out.mono ?_; rintro e w2 ⟨rfl, rfl⟩)
            go_roundg 2
            case rel => exact ⟨1, m, b, by decide, ⟨rfl⟩, rfl, rfl, rfl, ⟨by rw [HM.out, HP.out, Nat.add_zero]⟩, ⟨by rw [HBb.out, HP.out, Nat.add_zero]⟩, HD⟩
            case measure => have := HK.out; omega
          · have hz1 : ((cnt : Int) == 0) = false := by simpa using h0
            have hz2 : ¬ ((cnt : Int) = 0) := by omega
            have HZ := Aside0.mk h0
            have hm1 : IntKind.i64.wrap ((cnt : Int) * -1) = -(cnt : Int) := by rw [Int.mul_neg_one]; exact IntWalk.i64_in _ (by have := HP.out; have := HQ.out; omega)
            have hm2 : IntKind.i64.wrap (m + -(cnt : Int)) = m + -(cnt : Int) := IntWalk.i64_in _ (by have := HP.out; have := HQ.out; have := HM.out; have := pre_le s 0; have := pre_le s 1; have := pre_le s 2; omega)
            clear h0
            go_wp2_with (go_at_call 188; refine HCt.out.mono ?_; rintro e w2 ⟨rfl, rfl⟩)
            go_quiet (fail)
            go_wp2
            go_roundg 2
            case rel => exact ⟨1, _, true, by decide, ⟨rfl⟩, rfl, rfl, rfl, ⟨by have := HP.out; have := HQ.out; have := HM.out; unfold wrap64; omega⟩, ⟨(decide_eq_true (by have := HP.out; have := HZ.out; omega)).symm⟩, ⟨HD.out.step _⟩⟩
            case measure => have := HK.out; omega
        · replace HM : Aside0 (m = (s.size : Int) - (pre s.data.toList 1 : Int)) := HM
          replace HBb : Aside0 (b = decide (pre s.data.toList 1 ≠ 0)) := HBb
          have x1 := pw_cell_below HD.out.below HG.out.2.1
          have x2 := pw_cell_below HD.out.below x256
          obtain ⟨a0, k0, y0⟩ := (HA.out.below HD.out.below).cellD 10 (by decide) (by decide)
          have HCt := Aside0.mk (Tryz.strings_Count_one s 10 wr)
          have b13 : ∀ h : 0 < (⟨#[10]⟩ : ByteArray).size, ((⟨#[10]⟩ : ByteArray)[0]'h).toNat = 10 := fun _ => rfl
          have hpre : pre s.data.toList 2 = pre s.data.toList 1 + s.data.toList.count 10 := by simp [pre]
          obtain ⟨cnt, hcnt⟩ : ∃ cnt, Lib.countByte s.data.toList 10 = cnt := ⟨_, rfl⟩
          have hcn2 : s.data.toList.count 10 = cnt := hcnt
          rw [hcn2] at hpre
          rw [hcnt] at HCt
          have HP := Aside0.mk hpre
          have HQ := Aside0.mk (pre_le s 2)
          clear hcnt hcn2 hpre
          by_cases h0 : cnt = 0
          · subst h0
            go_wp2_with (go_at_call 188; refine HCt.out.mono ?_; rintro e w2 ⟨rfl, rfl⟩)
            go_roundg 1
            case rel => exact ⟨2, m, b, by decide, ⟨rfl⟩, rfl, rfl, rfl, ⟨by rw [HM.out, HP.out, Nat.add_zero]⟩, ⟨by rw [HBb.out, HP.out, Nat.add_zero]⟩, HD⟩
            case measure => have := HK.out; omega
          · have hz1 : ((cnt : Int) == 0) = false := by simpa using h0
            have hz2 : ¬ ((cnt : Int) = 0) := by omega
            have HZ := Aside0.mk h0
            have hm1 : IntKind.i64.wrap ((cnt : Int) * -1) = -(cnt : Int) := by rw [Int.mul_neg_one]; exact IntWalk.i64_in _ (by have := HP.out; have := HQ.out; omega)
            have hm2 : IntKind.i64.wrap (m + -(cnt : Int)) = m + -(cnt : Int) := IntWalk.i64_in _ (by have := HP.out; have := HQ.out; have := HM.out; have := pre_le s 0; have := pre_le s 1; have := pre_le s 2; omega)
            clear h0
            go_wp2_with (go_at_call 188; refine HCt.out.mono ?_; rintro e w2 ⟨rfl, rfl⟩)
            go_quiet (fail)
            go_wp2
            go_roundg 1
            case rel => exact ⟨2, _, true, by decide, ⟨rfl⟩, rfl, rfl, rfl, ⟨by have := HP.out; have := HQ.out; have := HM.out; unfold wrap64; omega⟩, ⟨(decide_eq_true (by have := HP.out; have := HZ.out; omega)).symm⟩, ⟨HD.out.step _⟩⟩
            case measure => have := HK.out; omega
        · replace HM : Aside0 (m = (s.size : Int) - (pre s.data.toList 2 : Int)) := HM
          replace HBb : Aside0 (b = decide (pre s.data.toList 2 ≠ 0)) := HBb
          have x1 := pw_cell_below HD.out.below HG.out.2.2
          have x2 := pw_cell_below HD.out.below x256
          obtain ⟨a0, k0, y0⟩ := (HA.out.below HD.out.below).cellD 9 (by decide) (by decide)
          have HCt := Aside0.mk (Tryz.strings_Count_one s 9 wr)
          have b13 : ∀ h : 0 < (⟨#[9]⟩ : ByteArray).size, ((⟨#[9]⟩ : ByteArray)[0]'h).toNat = 9 := fun _ => rfl
          have hpre : pre s.data.toList 3 = pre s.data.toList 2 + s.data.toList.count 9 := by simp [pre]
          obtain ⟨cnt, hcnt⟩ : ∃ cnt, Lib.countByte s.data.toList 9 = cnt := ⟨_, rfl⟩
          have hcn2 : s.data.toList.count 9 = cnt := hcnt
          rw [hcn2] at hpre
          rw [hcnt] at HCt
          have HP := Aside0.mk hpre
          have HQ := Aside0.mk (pre_le s 3)
          clear hcnt hcn2 hpre
          by_cases h0 : cnt = 0
          · subst h0
            go_wp2_with (go_at_call 188; refine HCt.out.mono ?_; rintro e w2 ⟨rfl, rfl⟩)
            go_roundg 0
            case rel => exact ⟨3, m, b, by decide, ⟨rfl⟩, rfl, rfl, rfl, ⟨by rw [HM.out, HP.out, Nat.add_zero]⟩, ⟨by rw [HBb.out, HP.out, Nat.add_zero]⟩, HD⟩
            case measure => have := HK.out; omega
          · have hz1 : ((cnt : Int) == 0) = false := by simpa using h0
            have hz2 : ¬ ((cnt : Int) = 0) := by omega
            have HZ := Aside0.mk h0
            have hm1 : IntKind.i64.wrap ((cnt : Int) * -1) = -(cnt : Int) := by rw [Int.mul_neg_one]; exact IntWalk.i64_in _ (by have := HP.out; have := HQ.out; omega)
            have hm2 : IntKind.i64.wrap (m + -(cnt : Int)) = m + -(cnt : Int) := IntWalk.i64_in _ (by have := HP.out; have := HQ.out; have := HM.out; have := pre_le s 0; have := pre_le s 1; have := pre_le s 2; omega)
            clear h0
            go_wp2_with (go_at_call 188; refine HCt.out.mono ?_; rintro e w2 ⟨rfl, rfl⟩)
            go_quiet (fail)
            go_wp2
            go_roundg 0
            case rel => exact ⟨3, _, true, by decide, ⟨rfl⟩, rfl, rfl, rfl, ⟨by have := HP.out; have := HQ.out; have := HM.out; unfold wrap64; omega⟩, ⟨(decide_eq_true (by have := HP.out; have := HZ.out; omega)).symm⟩, ⟨HD.out.step _⟩⟩
            case measure => have := HK.out; omega
        · replace HM : Aside0 (m = (s.size : Int) - (pre s.data.toList 3 : Int)) := HM
          replace HBb : Aside0 (b = decide (pre s.data.toList 3 ≠ 0)) := HBb
          have hm : m = nw := by have := HM.out; have := HNW.out; have := brkN_sum s.data.toList; simp only [pre] at *; omega
          have hb : b = any := by rw [HBb.out, ← HANY.out, brkN_sum]; simp only [pre]
          subst hm; subst hb
          go_wp2
          go_meet
          exact ⟨rfl, rfl, HD⟩
        · omega
    · have hz : decide ((24 : Int) ≤ (s.size : Int)) = false := decide_eq_false (by omega)
      simp only [hz]
      clear hz h24
      go_wp2
      go_loopg [5, 6, 10] s.size (fun gg v5 v6 i wr => ∃ (k : Nat) (m : Int) (b : Bool), k ≤ s.size ∧ Aside0 (gg = s.size - k) ∧ i = .int .i64 k ∧ v5 = .int .i64 m ∧ v6 = .bool b ∧ Aside0 (m = (s.size : Int) - (brkN (s.data.toList.take k) : Int)) ∧ Aside0 (b = decide (brkN (s.data.toList.take k) ≠ 0)) ∧ Aside0 (Drawn0 w wr))
      case atStart => exact ⟨0, _, _, Nat.zero_le _, ⟨rfl⟩, rfl, rfl, rfl, ⟨by simp [brkN]⟩, ⟨rfl⟩, HD0⟩
      case round =>
        clear HD0
        obtain ⟨k, m, b, hk, HK, rfl, rfl, rfl, HM, HBb, HD⟩ := hrel
        by_cases hlt : k < s.size
        · have hkl : k < s.data.toList.length := hlt
          have htk := brkN_take s.data.toList k hkl
          have hle : brkN (s.data.toList.take (k + 1)) ≤ s.size := by have := brkN_le (s.data.toList.take (k + 1)); rw [List.length_take] at this; have := HL.out; omega
          have HLE2 := Aside0.mk hle
          obtain ⟨x, hx⟩ : ∃ x : UInt8, (s[k]'hlt) = x := ⟨_, rfl⟩
          have hxl : s.data.toList[k] = x := hx
          rw [hxl] at htk
          have hx256 : (x.toNat : Int) < 256 := by have := x.toNat_lt; omega
          have hz : (k : Int) < (s.size : Int) := by omega
          have hx2 : x.toNat < 256 := x.toNat_lt
          by_cases hq : brk x = true
          · rw [if_pos hq] at htk
            have HTK := Aside0.mk htk
            obtain ⟨a0, k0, y0⟩ := (HA.out.below HD.out.below).cellD x.toNat hx2 ((brk_nat x).1 hq)
            clear hle hkl htk hq hxl hx2
            go_wp2
            go_roundg (s.size - (k + 1))
            case rel => exact ⟨k + 1, _, true, by omega, ⟨rfl⟩, by go_num, rfl, rfl, ⟨by have := HTK.out; have := HLE2.out; have := HM.out; first | (unfold wrap64; omega) | omega⟩, ⟨(decide_eq_true (by have := HTK.out; omega)).symm⟩, HD⟩
            case measure => have := HK.out; omega
          · rw [if_neg hq, Nat.add_zero] at htk
            have HTK := Aside0.mk htk
            have y0 := (HA.out.below HD.out.below).cell x.toNat hx2 (fun h => hq ((brk_nat x).2 h))
            clear hle hkl htk hq hxl hx2
            go_wp2
            go_roundg (s.size - (k + 1))
            case rel => exact ⟨k + 1, m, b, by omega, ⟨rfl⟩, by go_num, rfl, rfl, ⟨by rw [HM.out, HTK.out]; simp⟩, ⟨by rw [HBb.out, HTK.out]; simp⟩, HD⟩
            case measure => have := HK.out; omega
        · obtain rfl : k = s.size := by omega
          have e : s.data.toList.take s.size = s.data.toList := List.take_of_length_le (by rw [HL.out]; exact Nat.le_refl _)
          have hm : m = nw := by have := HM.out; have := HNW.out; rw [e] at *; omega
          have hb : b = any := by rw [HBb.out, ← HANY.out, e]
          subst hm; subst hb
          have hz : ¬ ((s.size : Int) < (s.size : Int)) := by omega
          clear hlt hk e
          go_wp2
          go_meet
          exact ⟨rfl, rfl, HD⟩
  case rest =>
    obtain ⟨rfl, rfl, HD⟩ := hcut
    clear x256 HG
    cases any with
    | false =>
      have h0 : brkN s.data.toList = 0 := by have := HANY.out; simpa using this
      have HZ := Aside0.mk (filter_none s h0)
      clear h0
      go_wp2
      go_ret
      exact ⟨by rw [HZ.out]; rfl, HD.out.below⟩
    | true =>
      have hmk := print_make (P := Tryz.prog) 37 5 .u8 1 Tryz.underlying37 (by kernel_rfl) (by decide) nw (by have := HNW.out; omega)
      have HO := Aside0.mk (own_made wc w.heap.size 5 .u8 nw HD.out.below.size (by have := HNW.out; omega))
      have HB := Aside0.mk (HD.out.below.alloc HD.out.below.size (.cells (madeCells #[.int .u8 0] nw) 5))
      have HGB := Aside0.mk HD.out.below.size
      go_wp2
      clear hmk
      obtain ⟨g2, hg2⟩ : ∃ g2, wc.heap.size = g2 := ⟨_, rfl⟩
      rw [hg2] at HO HGB ⊢
      clear hg2
      have HA0 := Aside0.mk HA.out
      go_loopg [13, 14] s.size (fun gg v13 v14 wr => ∃ (k : Nat) (xs : List Int), k ≤ s.size ∧ Aside0 (gg = s.size - k) ∧ v14 = .int .i64 k ∧ v13 = .int .i64 (fl s k).length ∧ Aside0 (xs.length = nw) ∧ Aside0 (xs.take (fl s k).length = (fl s k).map fun b => (b.toNat : Int)) ∧ Aside0 (wr.ownsRow w.heap.size 5 1 (.slice (some ⟨g2, 0, none⟩) nw nw) nw (nums .u8 xs)) ∧ Aside0 (Below w.heap.size w wr))
      case atStart => exact ⟨0, _, Nat.zero_le _, ⟨rfl⟩, rfl, rfl, ⟨by simp⟩, ⟨rfl⟩, HO, HB⟩
      case round =>
        clear HO HB HD
        obtain ⟨k, xs, hk, HK, rfl, rfl, HXL, HX, HO, HB⟩ := hrel
        by_cases hlt : k < s.size
        · have hkl : k < s.data.toList.length := hlt
          have hfl := fl_next s k hkl
          have hfle := fl_le s (k + 1)
          obtain ⟨x, hx⟩ : ∃ x : UInt8, (s[k]'hlt) = x := ⟨_, rfl⟩
          have hxl : s.data.toList[k] = x := hx
          rw [hxl] at hfl
          have hx256 : (x.toNat : Int) < 256 := by have := x.toNat_lt; omega
          have hz : (k : Int) < (s.size : Int) := by omega
          have hx2 : x.toNat < 256 := x.toNat_lt
          by_cases hq : brk x = true
          · rw [if_pos hq] at hfl
            have HFL := Aside0.mk hfl
            obtain ⟨a0, k0, y0⟩ := (HA.out.below HB.out).cellD x.toNat hx2 ((brk_nat x).1 hq)
            have hcp : ∀ (w : World) (d : Option Addr) (dLen dCap : Nat), (Builtin.copy_ #[37, 37] 3 #[.slice d dLen dCap, .slice (some a0) 0 k0]).run Tryz.prog w = .ok (goInt 0) w := fun w d dLen dCap => run_copy_none w 37 37 3 5 d (some a0) dLen dCap 0 k0 Tryz.underlying37 (by kernel_rfl) (Nat.zero_min _)
            have hjn : (fl s k).length ≤ nw := by have := fl_le s k; have := HNW.out; omega
            have HFS := Aside0.mk (show (fl s k).length ≤ 140737488355328 by have := fl_le s k; omega)
            clear hfl hfle hkl hq hxl hx2
            by_cases hE : (fl s k).length = nw
            · have HE := Aside0.mk hE
              have p0 : (0 : Int) ≤ (nw : Int) := by omega
              clear hjn
              go_wp2
              go_quiet (fail)
              go_wp2
              go_roundg (s.size - (k + 1))
              case rel => exact ⟨k + 1, xs, by omega, ⟨rfl⟩, by go_num, by rw [HFL.out, HE.out]; exact congrArg (Value.int .i64) (by have := HFS.out; have := HE.out; unfold wrap64; omega), HXL, ⟨by rw [HFL.out]; exact HX.out⟩, ⟨pw_own_drewN HO.out _⟩, ⟨pw_below_drewN HB.out _⟩⟩
              case measure => have := HK.out; omega
            · have p0 : (0 : Int) ≤ ((fl s k).length : Int) := by omega
              have p1 : ((fl s k).length : Int) < (nw : Int) := by omega
              have p2 : (fl s k).length < nw := by omega
              clear hjn hE
              go_wp2
              go_quiet (fail)
              go_wp2
              go_roundg (s.size - (k + 1))
              case rel => exact ⟨k + 1, xs, by omega, ⟨rfl⟩, by go_num, by rw [HFL.out]; exact congrArg (Value.int .i64) (by have := HFS.out; unfold wrap64; omega), HXL, ⟨by rw [HFL.out]; exact HX.out⟩, ⟨pw_own_drewN HO.out _⟩, ⟨pw_below_drewN HB.out _⟩⟩
              case measure => have := HK.out; omega
          · rw [if_neg hq] at hfl
            have HFL := Aside0.mk hfl
            have y0 := (HA.out.below HB.out).cell x.toNat hx2 (fun h => hq ((brk_nat x).2 h))
            have hjn : (fl s k).length < nw := by rw [hfl, List.length_append, List.length_singleton] at hfle; have := HNW.out; omega
            have p0 : (0 : Int) ≤ ((fl s k).length : Int) := by omega
            have p1 : ((fl s k).length : Int) < (nw : Int) := by omega
            obtain ⟨o1, o2⟩ := own_at HO.out ((fl s k).length : Int) p0 p1
            rw [Int.toNat_natCast] at o1 o2
            have hst := (own_store HO.out ((fl s k).length : Int) (x.toNat : Int)).1
            rw [Int.toNat_natCast] at hst
            have HST := Aside0.mk hst
            have HFS := Aside0.mk (show (fl s k).length < 140737488355328 by have := HNW.out; omega)
            have HJN := Aside0.mk hjn
            clear hst hfl hfle hkl hq hxl hx2 hjn
            go_wp2
            go_roundg (s.size - (k + 1))
            case rel => exact ⟨k + 1, _, by omega, ⟨rfl⟩, by go_num, by rw [HFL.out, List.length_append, List.length_singleton]; exact congrArg (Value.int .i64) (by have := HFS.out; unfold wrap64; omega), ⟨by rw [List.length_set]; exact HXL.out⟩, ⟨by rw [HFL.out]; exact set_take HX.out (by rw [HXL.out]; exact HJN.out)⟩, ⟨HST.out⟩, ⟨HB.out.setCell HGB.out _⟩⟩
            case measure => have := HK.out; omega
        · obtain rfl : k = s.size := by omega
          have hz : ¬ ((s.size : Int) < (s.size : Int)) := by omega
          have e : s.data.toList.take s.size = s.data.toList := List.take_of_length_le (by rw [HL.out]; exact Nat.le_refl _)
          have hxs : xs = (s.data.toList.filter fun b => !brk b).map fun b => (b.toNat : Int) := by
            have h1 := HX.out
            have h2 := filter_len s.data.toList
            have h3 := HXL.out
            have h4 := HNW.out
            have h5 := HL.out
            unfold fl at h1
            rw [e] at h1
            rw [← h1, List.take_of_length_le (by omega)]
          have hcs := Kd.C_string (P := Tryz.prog) (w := wr) (src := 37) (dst := 9) (e := 5) (A := some ⟨g2, 0, none⟩) (n := nw) (c := nw) (xs := xs) Tryz.underlying37 Tryz.underlying5 Tryz.underlying9 (C_own HO.out)
          rw [hxs, strOfNums_bytes2] at hcs
          clear hlt hk e hxs
          go_wp2
          go_ret
          exact ⟨rfl, HB.out⟩
theorem olds_cell {w : World} {g : Nat} (h : Kd.C Kd.string w (some ⟨g, 0, none⟩) 6 olds) (j : Nat) (p : ByteArray) (hj : olds[j]? = some p) : w.cell? ⟨g, j, none⟩ = some (.string p) := by
  obtain ⟨ad, e, h2⟩ := olds_at h j p hj
  cases e
  have e2 : (⟨g, 0, none⟩ : Addr).add j = ⟨g, j, none⟩ := by simp [Addr.add]; intro h; exact h.symm
  rwa [e2] at h2
def AllQ (w0 : World) (b : Nat) (w1 : World) : Prop := ∃ c v, w1.heap[b]? = some (.cells #[.int .u32 0, .int .i32 1, .int .u32 0, .iface 254 (.pointer (some ⟨c, 0, none⟩)), .slice none 0 0] 217 (0, 0)) ∧
      RepBlk c (goneB 3) v w1 ∧ Kd.R Kd.string 9 w1 w0.heap.size (fun _ => True) v (gone 3) ∧ Below w0.heap.size w0 w1
theorem all_after {w0 w1 w2 : World} {b : Nat} (hb0 : w0.heap.size ≤ b) (h : AllQ w0 b w1) (e : w2 = (w1.drew.setCell ⟨b, 0, none⟩ (.int .u32 1)).setCell ⟨b, 1, none⟩ (.int .i32 0)) :
    ∃ c v, w2.cell? ⟨b, 3, none⟩ = some (.iface 254 (.pointer (some ⟨c, 0, none⟩))) ∧ RepBlk c (goneB 3) v w2 ∧ Kd.R Kd.string 9 w2 w0.heap.size (fun _ => True) v (gone 3) ∧ Below w0.heap.size w0 w2 := by
  obtain ⟨c, v, h1, h2, h3, h4⟩ := h
  have h1d : w1.drew.heap[b]? = some (.cells #[.int .u32 0, .int .i32 1, .int .u32 0, .iface 254 (.pointer (some ⟨c, 0, none⟩)), .slice none 0 0] 217 (0, 0)) := h1
  have k1 := Go.Joins.block_setCell (i := 0) h1d (.int .u32 1)
  have k2 := Go.Joins.block_setCell (i := 1) k1 (.int .i32 0)
  have hne : c ≠ b := h2.ne h1 (by decide)
  have h2d : RepBlk c (goneB 3) v w1.drew := h2.below (below_drew (Below.refl _ _))
  subst e
  exact ⟨c, v, (blk_cell k2 3).trans rfl, (h2d.far hne).far hne, Kd.R_set (Kd.R_set (Kd.R_drew h3) h1d (by decide) 0 _) k1 (by decide) 1 _, ((below_drew h4).setCell hb0 _).setCell hb0 _⟩
set_option maxRecDepth 100000 in
set_option maxHeartbeats 3200000 in
theorem replace_calls (b g cap : Nat) (s : ByteArray) (w0 w : World) (hB : Below w0.heap.size w0 w) (hb0 : w0.heap.size ≤ b) (hb : w.heap[b]? = some (.cells #[.int .u32 0, .int .i32 0, .int .u32 0, .nilIface, .slice (some ⟨g, 0, none⟩) 6 cap] 217 (0, 0)))
    (hC : Kd.C Kd.string w (some ⟨g, 0, none⟩) 6 olds) (hne : g ≠ b) (hs : s.size ≤ 140737488355328) :
    Calls Tryz.prog 182 #[.pointer (some ⟨b, 0, none⟩), .string s] w fun e w' => e = .returned (.string (dropS s)) ∧ Below w0.heap.size w0 w' := by
  have hset := (Go.Joins.block_setCell (i := 1) hb (.int .i32 1)).trans (show _ = some (Obj.cells #[.int .u32 0, .int .i32 1, .int .u32 0, .nilIface, .slice (some ⟨g, 0, none⟩) 6 cap] 217 (0, 0)) from rfl)
  have oth : ∀ j p, olds[j]? = some p → (w.setCell ⟨b, 1, none⟩ (.int .i32 1)).cell? ⟨g, j, none⟩ = some (.string p) := fun j p hj =>
    (World.cell?_setCell_other _ _ _ _ (fun e => hne (by injection e with e1; first | exact e1 | exact e1.symm))).trans (olds_cell hC j p hj)
  have HO := Aside0.mk (once_calls b g cap w0 (w.setCell ⟨b, 1, none⟩ (.int .i32 1)) (hB.setCell hb0 _) hb0 hset (oth 0 _ rfl) (oth 1 _ rfl) (oth 2 _ rfl) (oth 3 _ rfl) (oth 4 _ rfl) (oth 5 _ rfl))
  have HDo := Aside0.mk (do_first b w (AllQ w0 b) ((blk_cell hb 0).trans rfl) ((blk_cell hb 1).trans rfl) (blk_frozen hb 1) (HO.out.mono fun e w1 h => by
    obtain ⟨e1, c, v, h1, h2, h3, h4⟩ := h
    exact ⟨e1, (blk_cell h1 0).trans rfl, (blk_cell h1 1).trans rfl, blk_frozen h1 0, blk_frozen h1 1, c, v, h1, h2, h3, h4⟩))
  have HB0 := Aside0.mk hb0
  clear hB hb0 hb hC hne hset oth HO
  go_enter Tryz.func182, Tryz.ntmps182
  go_wp2_with (go_at_call 216; refine HDo.out.mono ?_; rintro e w2 ⟨rfl, w1, hq, g0, g1, hw2⟩; obtain ⟨c, v, h1, h2, h3, h4⟩ := all_after HB0.out hq hw2; clear hq g0 g1 hw2; have HD := Aside0.mk (do_calls c v w0.heap.size s w2 h2 h3 hs); have HB := Aside0.mk h4; clear h2 h3 h4)
  refine HD.out.mono ?_
  rintro e w3 ⟨rfl, hb3⟩
  have HB3 := Aside0.mk (HB.out.trans (hb3.mono HB.out.size))
  clear hb3
  go_wp2
  go_ret
  exact ⟨rfl, HB3.out⟩
def stripL (l : List UInt8) : List UInt8 := l.dropWhile fun b => decide (b.toNat ≤ 32)
def cutS (s : ByteArray) : ByteArray := dropS ⟨(stripL s.data.toList).toArray⟩
theorem tail_data (t : ByteArray) : (t.extract 1 t.size).data.toList = t.data.toList.drop 1 := by
  have : (t.extract 1 t.size).data = t.data.extract 1 t.size := by simp
  rw [this, Array.toList_extract]
  have h : t.data.toList.length = t.size := rfl
  simp [List.extract, List.take_of_length_le, h]
theorem strip_step {t : ByteArray} (h : 0 < t.size) : stripL t.data.toList = if (t[0]'h).toNat ≤ 32 then stripL (t.extract 1 t.size).data.toList else t.data.toList := by
  rw [tail_data]
  have e : t.data.toList = (t[0]'h) :: t.data.toList.drop 1 := by
    have hl : 0 < t.data.toList.length := h
    conv => lhs; rw [← List.drop_zero (l := t.data.toList), List.drop_eq_getElem_cons hl]
    rfl
  conv => lhs; rw [e]
  unfold stripL
  rw [List.dropWhile_cons]
  by_cases hq : (t[0]'h).toNat ≤ 32
  · rw [if_pos hq, if_pos (by simpa using hq)]
  · rw [if_neg hq, if_neg (by simpa using hq), ← e]
set_option maxRecDepth 100000 in
set_option maxHeartbeats 3200000 in
theorem drop_calls (s : ByteArray) (w : World) (hs : s.size ≤ 140737488355328) :
    Calls Tryz.prog 131 #[.string s] w fun e w' => e = .returned (.string (cutS s)) ∧ Below w.heap.size w w' := by
  have HS := Aside0.mk hs
  obtain ⟨u, hu⟩ : ∃ u : ByteArray, ⟨(stripL s.data.toList).toArray⟩ = u := ⟨_, rfl⟩
  have hcut : cutS s = dropS u := by unfold cutS; rw [hu]
  have hul : stripL s.data.toList = u.data.toList := by rw [← hu]
  have hus : u.size ≤ s.size := by
    have h1 : u.size = (stripL s.data.toList).length := by rw [hul]; rfl
    have h2 : (stripL s.data.toList).length ≤ s.data.toList.length := (List.dropWhile_sublist _).length_le
    have h3 : s.data.toList.length = s.size := rfl
    omega
  have HU := Aside0.mk hul
  rw [hcut]
  have HUS := Aside0.mk (show u.size ≤ 140737488355328 by omega)
  clear hs hu hcut hul hus
  go_enter Tryz.func131, Tryz.ntmps131
  go_upto_block 0 with (fail)
  go_cut [0] (fun v0 wc => v0 = .string u ∧ Aside0 (Below w.heap.size w wc))
  case first =>
    go_wp2
    go_loopg [0] s.size (fun gg v0 wr => ∃ t : ByteArray, v0 = .string t ∧ Aside0 (gg = t.size) ∧ Aside0 (stripL t.data.toList = u.data.toList) ∧ Aside0 (Below w.heap.size w wr))
    case atStart => exact ⟨s, rfl, ⟨rfl⟩, HU, ⟨Below.refl _ _⟩⟩
    case round =>
      obtain ⟨t, rfl, HK, HE, HB⟩ := hrel
      by_cases h0 : t.size = 0
      · have ht : t.toList.isEmpty = true := by rw [ByteArray.toList_eq, List.length_eq_zero_iff.1 (show t.data.toList.length = 0 from h0)]; rfl
        have htu : u = t := by
          have h1 : t.data.toList = [] := List.length_eq_zero_iff.1 h0
          have h2 := HE.out
          rw [h1] at h2
          have h3 : u.data.toList = [] := h2.symm
          cases u; cases t; congr; exact Array.toList_inj.1 (h3.trans h1.symm)
        have HTU := Aside0.mk htu
        clear htu h0
        go_wp2
        go_meet
        exact ⟨by rw [HTU.out], HB⟩
      · have h1 : 0 < t.size := by omega
        have ht : t.toList.isEmpty = false := by
          rw [ByteArray.toList_eq]
          cases hq : t.data.toList with
          | nil => exact absurd (show t.size = 0 from (congrArg List.length hq)) h0
          | cons b l => rfl
        have hst := strip_step h1
        by_cases h2 : (t[0]'h1).toNat ≤ 32
        · rw [if_pos h2] at hst
          have HST := Aside0.mk hst
          have hd : decide (((t[0]'h1).toNat : Int) ≤ 32) = true := decide_eq_true (by omega)
          have hl : (t.extract 1 t.size).size = t.size - 1 := by simp
          have HL := Aside0.mk hl
          have H1 := Aside0.mk h1
          clear hst h2 h0 hl
          go_wp2
          go_roundg (t.extract 1 t.size).size
          case rel => exact ⟨_, rfl, ⟨rfl⟩, ⟨HST.out.symm.trans HE.out⟩, HB⟩
          case measure => have := HK.out; have := HL.out; have := H1.out; omega
        · rw [if_neg h2] at hst
          have htu : u = t := by
            have h3 := HE.out
            rw [hst] at h3
            cases u; cases t; congr; exact Array.toList_inj.1 h3.symm
          have HTU := Aside0.mk htu
          have hd : decide (((t[0]'h1).toNat : Int) ≤ 32) = false := decide_eq_false (by omega)
          clear hst h2 h0 htu
          go_wp2
          go_meet
          exact ⟨by rw [HTU.out], HB⟩
  case rest =>
    obtain ⟨rfl, HB⟩ := hcut
    have HN := Aside0.mk (new_calls ⟨wc.heap.size, 0, none⟩ 6 _ (C_olds wc))
    have HB1 := Aside0.mk (HB.out.alloc HB.out.size (.cells #[.string ⟨#[9]⟩, .string ⟨#[]⟩, .string ⟨#[10]⟩, .string ⟨#[]⟩, .string ⟨#[13]⟩, .string ⟨#[]⟩] 9))
    go_wp2_with (first
      | (go_at_call 181; refine HN.out.mono ?_; rintro e w1 ⟨b, g, cap, rfl, k1, k2, k3, k4, k5⟩; have HR := Aside0.mk (replace_calls b g cap u w w1 (HB1.out.trans (k5.mono HB1.out.size)) (Nat.le_trans HB1.out.size k1) k2 k3 k4 HUS.out); clear k1 k2 k3 k4 k5)
      | (go_at_call 182; refine HR.out.mono ?_; rintro e w2 ⟨rfl, hb2⟩))
    go_ret
    exact ⟨rfl, hb2⟩
end Go.Proofs.YtfmcdlbbbmeolaaGreatDoor.Sync
end
section
namespace Go.Proofs.YtfmcdlbbbmeolaaGreatDoor.Ext
open Go.RowKit Go.Lib Go.Proofs.YtfmcdlbbbmeolaaGreatDoorW.PrintWords Go.Proofs.YtfmcdlbbbmeolaaGreatDoorW.PrintLast Go.Proofs.YtfmcdlbbbmeolaaGreatDoorW.PrintMore Go.Proofs.YtfmcdlbbbmeolaaGreatDoor.Utf
def lowN (c : Nat) : Nat := if 65 ≤ c ∧ c ≤ 90 then c + 32 else c
def lowB (b : UInt8) : UInt8 := UInt8.ofNat (lowN b.toNat)
theorem low_lt {c : Nat} (h : c < 256) : lowN c < 256 := by unfold lowN; split <;> omega
theorem lowB_nat (b : UInt8) : (lowB b).toNat = lowN b.toNat := by
  unfold lowB
  rw [UInt8.toNat_ofNat', Nat.mod_eq_of_lt (by simpa using low_lt b.toNat_lt)]
theorem lowByte_calls (c : Nat) (w : World) :
    Calls Tryz.prog 183 #[.int .u8 (c : Int)] w fun e w' => e = .returned (.int .u8 (lowN c : Nat)) ∧ w = w' := by
  by_cases h1 : 65 ≤ c
  · have d1 : decide ((65 : Int) ≤ (c : Int)) = true := decide_eq_true (by omega)
    by_cases h2 : c ≤ 90
    · have d2 : decide ((c : Int) ≤ 90) = true := decide_eq_true (by omega)
      have hf : ((lowN c : Nat) : Int) = (c : Int) + 32 := by unfold lowN; rw [if_pos ⟨h1, h2⟩]; omega
      have HF := Aside0.mk hf
      clear hf
      have g1 : (65 : Int) ≤ c := by omega
      have g2 : (c : Int) ≤ 90 := by omega
      go_enter Tryz.func183, Tryz.ntmps183
      go_wp2
      go_ret
      refine ⟨?_, rfl⟩
      rw [HF.out]
      show Ending.returned (Value.int .u8 _) = _
      congr 2
      omega
    · have d2 : decide ((c : Int) ≤ 90) = false := decide_eq_false (by omega)
      have hf : lowN c = c := by unfold lowN; rw [if_neg (fun h => h2 h.2)]
      have HF := Aside0.mk hf
      clear hf
      go_enter Tryz.func183, Tryz.ntmps183
      go_wp2
      go_ret
      exact ⟨by rw [HF.out]; rfl, rfl⟩
  · have d1 : decide ((65 : Int) ≤ (c : Int)) = false := decide_eq_false (by omega)
    have hf : lowN c = c := by unfold lowN; rw [if_neg (fun h => h1 h.1)]
    have HF := Aside0.mk hf
    clear hf
    go_enter Tryz.func183, Tryz.ntmps183
    go_wp2
    go_ret
    exact ⟨by rw [HF.out]; rfl, rfl⟩
theorem conv_new (s : ByteArray) (w : World) : ∃ cap W1, (convert 9 37 (.string s)).run Tryz.prog w = .ok (.slice (some ⟨w.heap.size, 0, none⟩) s.size cap) W1 ∧
    (∀ j, j < s.size → W1.cell? ⟨w.heap.size, j, none⟩ = some (.int .u8 ((s.data.toList.getD j 0).toNat : Nat))) ∧ (∀ j, j < s.size → W1.frozen? ⟨w.heap.size, j, none⟩ = false) ∧ Below w.heap.size w W1 ∧ w.heap.size < W1.heap.size := by
  refine ⟨_, _, Lib.run_convert_string_bytes w 9 37 5 s Tryz.underlying9 Tryz.underlying37 Tryz.underlying5, fun j hj => bytesWorld_cell w 5 s j hj, fun j hj => ?_, ?_, by rw [bytesWorld_size]; omega⟩
  · have hcs : s.size ≤ (bytesCells w 5 s).size := by
      unfold bytesCells
      rw [Array.size_append, Array.size_map]
      exact Nat.le_add_right _ _
    unfold World.frozen?
    rw [bytesWorld_at_new]
    simp only [Bool.and_eq_false_iff, decide_eq_false_iff_not]
    omega
  · exact ⟨rfl, rfl, rfl, by rw [bytesWorld_size]; omega, fun k hk => bytesWorld_at_old w 5 s k hk⟩
theorem map_get (l : List UInt8) (j : Nat) (h : j < l.length) : (l.map lowB)[j]'(by simpa using h) = lowB (l.getD j 0) := by
  rw [List.getElem_map, List.getD_eq_getElem?_getD, List.getElem?_eq_getElem h, Option.getD_some]
def LowAt (b : Nat) (s : ByteArray) (k : Nat) (w : World) : Prop :=
  (∀ j, j < s.size → w.cell? ⟨b, j, none⟩ = some (.int .u8 ((if j < k then lowN (s.data.toList.getD j 0).toNat else (s.data.toList.getD j 0).toNat : Nat) : Nat))) ∧ (∀ j, j < s.size → w.frozen? ⟨b, j, none⟩ = false)
theorem lowAt_step {b : Nat} {s : ByteArray} {k : Nat} {w : World} (h : LowAt b s k w) (hk : k < s.size) : LowAt b s (k + 1) (w.setCell ⟨b, k, none⟩ (.int .u8 ((lowN (s.data.toList.getD k 0).toNat : Nat) : Nat))) := by
  refine ⟨fun j hj => ?_, fun j hj => ?_⟩
  · by_cases e : j = k
    · subst e
      rw [World.cell?_setCell_same _ _ _ (h.1 j hj), if_pos (by omega)]
    · rw [World.cell?_setCell_other _ _ _ _ (fun e' => e (by injection e' with e1 e2; omega)), h.1 j hj]
      by_cases h2 : j < k
      · rw [if_pos h2, if_pos (by omega)]
      · rw [if_neg h2, if_neg (by omega)]
  · rw [World.frozen?_setCell]; exact h.2 j hj
set_option maxHeartbeats 1600000 in
theorem lower_calls (s : ByteArray) (w : World) (hs : s.size ≤ 4611686018427387904) :
    Calls Tryz.prog 135 #[.string s] w fun e w' => e = .returned (.string ⟨(s.data.toList.map lowB).toArray⟩) ∧ Below w.heap.size w w' := by
  obtain ⟨cap, W1, hconv, hc, hfz, hb, hsz⟩ := conv_new s w
  have hl : s.data.toList.length = s.size := by rw [Array.length_toList]; rfl
  have HB := Aside0.mk hb
  have HS := Aside0.mk hsz
  have H0 : Aside0 (LowAt w.heap.size s 0 W1) := ⟨⟨fun j hj => by rw [hc j hj, if_neg (by omega)], hfz⟩⟩
  clear hb hsz hc hfz
  go_enter Tryz.func135, Tryz.ntmps135
  go_wp2
  clear hconv
  go_loopw [10] (fun i wr => ∃ k : Nat, k ≤ s.size ∧ i = .int .i64 k ∧ LowAt w.heap.size s k wr ∧ Below w.heap.size w wr)
    (fun i _ => s.size - (RowKit.intOf i).toNat)
  case atStart => exact ⟨0, Nat.zero_le _, rfl, H0.out, HB.out⟩
  case round =>
    obtain ⟨k, hk, rfl, hla, hbl⟩ := hrel
    have HL := Aside0.mk hla
    have HX := Aside0.mk hbl
    clear hla hbl H0 HB HS
    by_cases hlt : k < s.size
    · have hcell : wr.cell? ⟨w.heap.size, k, none⟩ = some (.int .u8 ((s.data.toList.getD k 0).toNat : Nat)) := by
        rw [HL.out.1 k hlt, if_neg (by omega)]
      have hfr := HL.out.2 k hlt
      obtain ⟨c, hce⟩ : ∃ c, (s.data.toList.getD k 0).toNat = c := ⟨_, rfl⟩
      have HST : Aside0 (LowAt w.heap.size s (k + 1) (wr.setCell ⟨w.heap.size, k, none⟩ (.int .u8 ((lowN c : Nat) : Nat)))) := ⟨by
        have := lowAt_step HL.out hlt
        rwa [hce] at this⟩
      rw [hce] at hcell
      clear hce
      have HK := Aside0.mk hl
      clear hl
      go_wp2_with (go_at_call 183; refine (lowByte_calls c _).mono ?_; rintro e w2 ⟨rfl, rfl⟩)
      go_roundw
      case rel => exact ⟨k + 1, by omega, by go_num, HST.out, HX.out.setCell (p := ⟨w.heap.size, k, none⟩) (Nat.le_refl _) _⟩
      case measure => simp [RowKit.intOf]; omega
    · have hke : k = s.size := by omega
      have hlen : (s.data.toList.map lowB).length = s.size := by rw [List.length_map, hl]
      have hback : (convert 37 9 (.slice (some ⟨w.heap.size, 0, none⟩) s.size cap)).run Tryz.prog wr = .ok (.string ⟨(s.data.toList.map lowB).toArray⟩) wr := by
        have := run_convert_bytes_back wr 37 9 5 ⟨w.heap.size, 0, none⟩ cap (s.data.toList.map lowB) Tryz.underlying37 Tryz.underlying5 Tryz.underlying9 (fun j hj => by
          have hj' : j < s.size := by omega
          rw [map_get _ _ (by omega), lowB_nat]
          have := HL.out.1 j hj'
          rw [if_pos (by omega)] at this
          rw [show (⟨w.heap.size, 0, none⟩ : Addr).add j = ⟨w.heap.size, j, none⟩ from by unfold Addr.add; split <;> simp_all]
          exact this)
        rwa [hlen] at this
      clear hke hlen
      have HK := Aside0.mk hl
      clear hl
      go_wp2
      go_ret
      exact ⟨rfl, HX.out⟩
end Go.Proofs.YtfmcdlbbbmeolaaGreatDoor.Ext
end
section
namespace Go.Proofs.YtfmcdlbbbmeolaaGreatDoor.Sync
open Go.RowKit Go.Lib Go.Proofs.YtfmcdlbbbmeolaaGreatDoor.Base Go.Proofs.YtfmcdlbbbmeolaaGreatDoorW.PrintWords Go.Proofs.YtfmcdlbbbmeolaaGreatDoorW.PrintLast Go.Proofs.YtfmcdlbbbmeolaaGreatDoorW.PrintMore
set_option linter.unusedVariables false
set_option linter.unusedSimpArgs false
open Go.Proofs.YtfmcdlbbbmeolaaGreatDoor.Ext (lowN lowByte_calls low_lt)
def letN (c : Nat) : Bool := decide (97 ≤ lowN c) && decide (lowN c ≤ 122)
def digN (c : Nat) : Bool := decide (48 ≤ c) && decide (c ≤ 57)
set_option maxHeartbeats 1600000 in
theorem letter_calls (c : Nat) (w : World) : Calls Tryz.prog 132 #[.int .u8 c] w fun e w' => e = .returned (.bool (letN c)) ∧ w = w' := by
  have HL := Aside0.mk (fun w => lowByte_calls c w)
  obtain ⟨m, hm⟩ : ∃ m, lowN c = m := ⟨_, rfl⟩
  rw [hm] at HL
  unfold letN
  rw [hm]
  clear hm
  by_cases h1 : 97 ≤ m
  · have d1 : decide ((97 : Int) ≤ (m : Int)) = true := decide_eq_true (by omega)
    have e1 : decide (97 ≤ m) = true := decide_eq_true h1
    rw [e1, Bool.true_and]
    by_cases h2 : m ≤ 122
    · have d2 : decide ((m : Int) ≤ 122) = true := decide_eq_true (by omega)
      have e2 : decide (m ≤ 122) = true := decide_eq_true h2
      rw [e2]
      clear h1 h2 e1 e2
      go_enter Tryz.func132, Tryz.ntmps132
      go_wp2_with (go_at_call 183; refine (HL.out _).mono ?_; rintro e w2 ⟨rfl, rfl⟩)
      go_ret
      exact ⟨rfl, rfl⟩
    · have d2 : decide ((m : Int) ≤ 122) = false := decide_eq_false (by omega)
      have e2 : decide (m ≤ 122) = false := decide_eq_false h2
      rw [e2]
      clear h1 h2 e1 e2
      go_enter Tryz.func132, Tryz.ntmps132
      go_wp2_with (go_at_call 183; refine (HL.out _).mono ?_; rintro e w2 ⟨rfl, rfl⟩)
      go_ret
      exact ⟨rfl, rfl⟩
  · have d1 : decide ((97 : Int) ≤ (m : Int)) = false := decide_eq_false (by omega)
    have e1 : decide (97 ≤ m) = false := decide_eq_false h1
    rw [e1, Bool.false_and]
    clear h1 e1
    go_enter Tryz.func132, Tryz.ntmps132
    go_wp2_with (go_at_call 183; refine (HL.out _).mono ?_; rintro e w2 ⟨rfl, rfl⟩)
    go_ret
    exact ⟨rfl, rfl⟩
set_option maxHeartbeats 1600000 in
theorem digit_calls (c : Nat) (w : World) : Calls Tryz.prog 184 #[.int .u8 c] w fun e w' => e = .returned (.bool (digN c)) ∧ w = w' := by
  unfold digN
  by_cases h1 : 48 ≤ c
  · have d1 : decide ((48 : Int) ≤ (c : Int)) = true := decide_eq_true (by omega)
    have e1 : decide (48 ≤ c) = true := decide_eq_true h1
    rw [e1, Bool.true_and]
    by_cases h2 : c ≤ 57
    · have d2 : decide ((c : Int) ≤ 57) = true := decide_eq_true (by omega)
      have e2 : decide (c ≤ 57) = true := decide_eq_true h2
      rw [e2]
      clear h1 h2 e1 e2
      go_enter Tryz.func184, Tryz.ntmps184
      go_wp2
      go_ret
      exact ⟨rfl, rfl⟩
    · have d2 : decide ((c : Int) ≤ 57) = false := decide_eq_false (by omega)
      have e2 : decide (c ≤ 57) = false := decide_eq_false h2
      rw [e2]
      clear h1 h2 e1 e2
      go_enter Tryz.func184, Tryz.ntmps184
      go_wp2
      go_ret
      exact ⟨rfl, rfl⟩
  · have d1 : decide ((48 : Int) ≤ (c : Int)) = false := decide_eq_false (by omega)
    have e1 : decide (48 ≤ c) = false := decide_eq_false h1
    rw [e1, Bool.false_and]
    clear h1 e1
    go_enter Tryz.func184, Tryz.ntmps184
    go_wp2
    go_ret
    exact ⟨rfl, rfl⟩
def hasF (n0 n1 : Int) (c : Nat) : Bool := if c < 128 then Go.bits .and .u64 ((if c < 64 then n0 else n1) / 2 ^ (c % 64)) 1 == 1 else false
set_option maxRecDepth 100000 in
set_option maxHeartbeats 1600000 in
theorem has_calls (b : Nat) (n0 n1 : Int) (c : Nat) (w : World) (h0 : w.cell? ⟨b, 0, none⟩ = some (.int .u64 n0)) (h1 : w.cell? ⟨b, 1, none⟩ = some (.int .u64 n1)) (hc : c < 256) :
    Calls Tryz.prog 134 #[.pointer (some ⟨b, 0, none⟩), .int .u8 c] w fun e w' => e = .returned (.bool (hasF n0 n1 c)) ∧ w = w' := by
  unfold hasF
  by_cases h : c < 128
  · rw [if_pos h]
    have hd : decide ((c : Int) < 128) = true := decide_eq_true (by omega)
    have hcell : w.cell? ⟨b, c / 64, none⟩ = some (.int .u64 (if c < 64 then n0 else n1)) := by
      by_cases h6 : c < 64
      · rw [if_pos h6, show c / 64 = 0 by omega]; exact h0
      · rw [if_neg h6, show c / 64 = 1 by omega]; exact h1
    obtain ⟨nx, hnx⟩ : ∃ nx, (if c < 64 then n0 else n1) = nx := ⟨_, rfl⟩
    rw [hnx] at hcell ⊢
    clear h0 h1 hnx
    go_enter Tryz.func134, Tryz.ntmps134
    go_wp2
    go_ret
    exact ⟨rfl, rfl⟩
  · rw [if_neg h]
    have hd : decide ((c : Int) < 128) = false := decide_eq_false (by omega)
    go_enter Tryz.func134, Tryz.ntmps134
    go_wp2
    go_ret
    exact ⟨rfl, rfl⟩
end Go.Proofs.YtfmcdlbbbmeolaaGreatDoor.Sync
end
section
namespace Go.Proofs.YtfmcdlbbbmeolaaGreatDoor.Sync
open Go.RowKit Go.Lib Go.Proofs.YtfmcdlbbbmeolaaGreatDoor.Base Go.Proofs.YtfmcdlbbbmeolaaGreatDoorW.PrintWords Go.Proofs.YtfmcdlbbbmeolaaGreatDoorW.PrintLast Go.Proofs.YtfmcdlbbbmeolaaGreatDoorW.PrintMore
attribute [local go_sem ↓] Go.wp_at_zero Go.wp_at_succ
set_option linter.unusedVariables false
set_option linter.unusedSimpArgs false
def inB (l : List UInt8) (c : Nat) : Bool := letN c || digN c || decide (0 ≤ Lib.indexByte l c.toUInt8)
theorem and63 : ∀ k : Fin 128, Go.bits .and .u8 (k.val : Int) 63 = ((k.val % 64 : Nat) : Int) := by decide +kernel
def zz (k : Nat) : Int := IntKind.u64.wrap (1 * 2 ^ min ((k % 64 : Nat) : Int).toNat IntKind.u64.bits)
theorem shl63 (k : Nat) (h : k < 128) : Op.shift .shl .u64 1 .u8 (Go.bits .and .u8 (k : Int) 63) = pure (.int .u64 (zz k)) := by
  have := and63 ⟨k, h⟩
  simp only at this
  rw [this, shift_shl_any _ _ _ _ (Int.natCast_nonneg _)]; rfl
def ofF (l : List UInt8) : Nat → Int × Int
  | 0 => (0, 0)
  | k + 1 => if inB l k = true then (if k < 64 then (Go.bits .or .u64 (ofF l k).1 (zz k), (ofF l k).2) else ((ofF l k).1, Go.bits .or .u64 (ofF l k).2 (zz k))) else ofF l k
def SetAt (l : List UInt8) (k b : Nat) (w : World) : Prop := w.heap[b]? = some (.cells #[.int .u64 (ofF l k).1, .int .u64 (ofF l k).2] 185 (0, 0))
theorem set_next {l : List UInt8} {k b : Nat} {w : World} {nx : Int} (h : SetAt l k b w) (hq : inB l k = true) (hk : k < 128) (hx : (if k < 64 then (ofF l k).1 else (ofF l k).2) = nx) :
    SetAt l (k + 1) b ((w.setCell ⟨b, k / 64, none⟩ (.int .u64 (Go.bits .or .u64 nx (zz k)))).drew) := by
  unfold SetAt at h ⊢
  rw [ofF, if_pos hq]
  have h2 := Go.Joins.block_setCell (i := k / 64) h (.int .u64 (Go.bits .or .u64 nx (zz k)))
  by_cases h6 : k < 64
  · rw [if_pos h6] at hx ⊢
    rw [show k / 64 = 0 by omega] at h2 ⊢
    rw [hx]
    exact h2
  · rw [if_neg h6] at hx ⊢
    rw [show k / 64 = 1 by omega] at h2 ⊢
    rw [hx]
    exact h2
set_option maxRecDepth 100000 in
set_option maxHeartbeats 3200000 in
theorem of_calls (s : ByteArray) (w : World) : Calls Tryz.prog 133 #[.string s] w fun e w' => ∃ b, e = .returned (.pointer (some ⟨b, 0, none⟩)) ∧ SetAt s.data.toList 128 b w' ∧ Below w.heap.size w w' := by
  go_enter Tryz.func133, Tryz.ntmps133
  go_wp2
  obtain ⟨b, hb⟩ : ∃ b, w.heap.size = b := ⟨_, rfl⟩
  have HB0 := Aside0.mk (Nat.le_of_eq hb)
  have HBK := Aside0.mk (heap_alloc_new w (.cells #[.int .u64 0, .int .u64 0] 185))
  have HB := Aside0.mk (below_alloc (Below.refl w.heap.size w) (.cells #[.int .u64 0, .int .u64 0] 185))
  rw [hb] at HBK ⊢
  go_loopg [7] 128 (fun gg v7 wr => ∃ k : Nat, k ≤ 128 ∧ Aside0 (gg = 128 - k) ∧ v7 = .int .u8 k ∧ Aside0 (SetAt s.data.toList k b wr) ∧ Aside0 (Below w.heap.size w wr))
  case atStart => exact ⟨0, by omega, ⟨rfl⟩, rfl, ⟨HBK.out⟩, HB⟩
  case round =>
    clear HBK HB
    obtain ⟨k, hk, HK, rfl, HSA, HB⟩ := hrel
    obtain ⟨x0, hx0⟩ : ∃ x0, (ofF s.data.toList k).1 = x0 := ⟨_, rfl⟩
    obtain ⟨x1, hx1⟩ : ∃ x1, (ofF s.data.toList k).2 = x1 := ⟨_, rfl⟩
    have HX := Aside0.mk (And.intro hx0 hx1)
    have HBK := Aside0.mk (show wr.heap[b]? = some (.cells #[.int .u64 x0, .int .u64 x1] 185 (0, 0)) by rw [← hx0, ← hx1]; exact HSA.out)
    clear hx0 hx1
    have HLt := Aside0.mk (fun w => letter_calls k w)
    have HDg := Aside0.mk (fun w => digit_calls k w)
    have HIx := Aside0.mk (fun w => Tryz.strings_IndexByte s (k : Int) w)
    by_cases hlt : k < 128
    · have hz : decide ((k : Int) < 128) = true := decide_eq_true (by omega)
      have hcell : wr.cell? ⟨b, k / 64, none⟩ = some (.int .u64 (if k < 64 then x0 else x1)) := by
        by_cases h6 : k < 64
        · rw [if_pos h6, show k / 64 = 0 by omega]; exact (blk_cell HBK.out 0).trans rfl
        · rw [if_neg h6, show k / 64 = 1 by omega]; exact (blk_cell HBK.out 1).trans rfl
      obtain ⟨nx, hnx⟩ : ∃ nx, (if k < 64 then x0 else x1) = nx := ⟨_, rfl⟩
      rw [hnx] at hcell
      have hfz := blk_frozen HBK.out (k / 64)
      have HNX := Aside0.mk hnx
      obtain ⟨q, hq⟩ : ∃ q, inB s.data.toList k = q := ⟨_, rfl⟩
      have HQ := Aside0.mk hq
      unfold inB at hq
      have HQ2 := Aside0.mk hq
      clear hb hnx hq
      go_upto_region 5 with (fail)
      go_cut [21] (fun v21 wc => v21 = .bool q ∧ wr = wc)
      case first =>
        by_cases h1 : letN k = true
        · have hq : q = true := by rw [← HQ2.out, h1]; rfl
          rw [h1] at HLt
          subst hq
          clear h1 hcell hfz
          go_wp2_with (go_at_call 132; refine (HLt.out _).mono ?_; rintro e w2 ⟨rfl, rfl⟩)
          go_meet
          exact ⟨rfl, rfl⟩
        · have h1 : letN k = false := by simpa using h1
          rw [h1] at HLt
          by_cases h2 : digN k = true
          · have hq : q = true := by rw [← HQ2.out, h1, h2]; rfl
            rw [h2] at HDg
            subst hq
            clear h1 h2 hcell hfz
            go_wp2_with (first
              | (go_at_call 132; refine (HLt.out _).mono ?_; rintro e w2 ⟨rfl, rfl⟩)
              | (go_at_call 184; refine (HDg.out _).mono ?_; rintro e w2 ⟨rfl, rfl⟩))
            go_meet
            exact ⟨rfl, rfl⟩
          · have h2 : digN k = false := by simpa using h2
            rw [h2] at HDg
            have hq : q = decide (0 ≤ Lib.indexByte s.data.toList k.toUInt8) := by rw [← HQ2.out, h1, h2]; rfl
            have hk2 : ((k : Int)).toNat.toUInt8 = k.toUInt8 := by rw [Int.toNat_natCast]
            obtain ⟨ix, hix⟩ : ∃ ix, Lib.indexByte s.data.toList k.toUInt8 = ix := ⟨_, rfl⟩
            rw [hix] at hq
            rw [hk2, hix] at HIx
            have HQ3 := Aside0.mk hq
            clear h1 h2 hq hix hk2 hcell hfz
            go_wp2_with (first
              | (go_at_call 132; refine (HLt.out _).mono ?_; rintro e w2 ⟨rfl, rfl⟩)
              | (go_at_call 184; refine (HDg.out _).mono ?_; rintro e w2 ⟨rfl, rfl⟩)
              | (go_at_call 185; refine (HIx.out _).mono ?_; rintro e w2 ⟨rfl, rfl⟩))
            go_meet
            exact ⟨by rw [HQ3.out], rfl⟩
      case rest =>
        obtain ⟨rfl, rfl⟩ := hcut
        cases q with
        | false =>
          go_wp2
          go_roundg (128 - (k + 1))
          case rel => exact ⟨k + 1, by omega, ⟨rfl⟩, by first | rfl | go_num, ⟨by unfold SetAt; rw [ofF, if_neg (by rw [HQ.out]; decide)]; exact HSA.out⟩, HB⟩
          case measure => have := HK.out; omega
        | true =>
          have q0 : (0 ≤ (k : Int) / 64) = True := eq_true (by omega)
          have q1 : ((k : Int) / 64 < 2) = True := eq_true (by omega)
          have q2 : ((k : Int) / 64).toNat = k / 64 := by omega
          have q3 := shl63 k hlt
          go_upto_region 6 with (fail)
          refine start_ (n := 13) (S := fun w' => w'.cell? ⟨b, k / 64, none⟩ = some (.int .u64 nx)) (ds := [12]) #[false, false, false, false, false, false, false, false, false, false, false, false, false] (by kernel_rfl) rfl rfl (hcell) (fun hHeld => ?_)
          refine pS 0 22 #[true, false, false, false, false, false, false, false, false, false, false, false, false] ?_
          refine pS 1 23 #[true, true, false, false, false, false, false, false, false, false, false, false, false] ?_
          refine pS 2 24 #[true, true, true, false, false, false, false, false, false, false, false, false, false] ?_
          refine pS 3 25 #[true, true, true, true, false, false, false, false, false, false, false, false, false] ?_
          refine pS 4 26 #[true, true, true, true, true, false, false, false, false, false, false, false, false] ?_
          refine pS 6 28 #[true, true, true, true, true, false, true, false, false, false, false, false, false] ?_
          refine pS 7 29 #[true, true, true, true, true, false, true, true, false, false, false, false, false] ?_
          refine pS 8 30 #[true, true, true, true, true, false, true, true, true, false, false, false, false] ?_
          refine pS 10 32 #[true, true, true, true, true, false, true, true, true, false, true, false, false] ?_
          refine tS 5 27 #[true, true, true, true, true, true, true, true, true, false, true, false, false] hHeld ?_
          refine pS 9 31 #[true, true, true, true, true, true, true, true, true, true, true, false, false] ?_
          refine pS 11 33 #[true, true, true, true, true, true, true, true, true, true, true, true, false] ?_
          refine last_ (i := 12) (N := none) #[true, true, true, true, true, true, true, true, true, true, true, true, true] rfl rfl (by kernel_rfl) (by decide) (fun K hK => ?_)
          refine skip_ (w1 := ?_) (by rfl) rfl ?_ ?_
          rotate_left
          · go_simp
            rfl
          refine hK.out _ _ ?_
          clear hK K
          refine done_ (by kernel_rfl) ?_
          go_wp2
          go_roundg (128 - (k + 1))
          case rel => exact ⟨k + 1, by omega, ⟨rfl⟩, by first | rfl | go_num, ⟨set_next HSA.out HQ.out hlt (by rw [HX.out.1, HX.out.2]; exact HNX.out)⟩, ⟨below_drew (HB.out.setCell HB0.out _)⟩⟩
          case measure => have := HK.out; omega
    · obtain rfl : k = 128 := by omega
      clear hlt hk hb
      go_wp2
      go_ret
      exact ⟨b, rfl, HSA.out, HB.out⟩
end Go.Proofs.YtfmcdlbbbmeolaaGreatDoor.Sync
end
section
namespace Go.Proofs.YtfmcdlbbbmeolaaGreatDoor.Sync
open Go.RowKit Go.Lib Go.Proofs.YtfmcdlbbbmeolaaGreatDoor.Base Go.Proofs.YtfmcdlbbbmeolaaGreatDoorW.PrintWords Go.Proofs.YtfmcdlbbbmeolaaGreatDoorW.PrintLast Go.Proofs.YtfmcdlbbbmeolaaGreatDoorW.PrintMore
open Go.Proofs.YtfmcdlbbbmeolaaGreatDoor.Bld (writeByte writeString)
open Go.Proofs.YtfmcdlbbbmeolaaGreatDoor.Ext (isF_step bytes_str)
set_option linter.unusedVariables false
set_option linter.unusedSimpArgs false
def inSet (l : List UInt8) (c : Nat) : Bool := hasF (ofF l 128).1 (ofF l 128).2 c
theorem set_cell {l : List UInt8} {b : Nat} {w : World} (h : SetAt l 128 b w) : w.cell? ⟨b, 0, none⟩ = some (.int .u64 (ofF l 128).1) ∧ w.cell? ⟨b, 1, none⟩ = some (.int .u64 (ofF l 128).2) :=
  ⟨(blk_cell h 0).trans rfl, (blk_cell h 1).trans rfl⟩
theorem set_calls {l : List UInt8} {b : Nat} {w : World} (h : SetAt l 128 b w) (c : Nat) (hc : c < 256) : Calls Tryz.prog 134 #[.pointer (some ⟨b, 0, none⟩), .int .u8 c] w fun e w' => e = .returned (.bool (inSet l c)) ∧ w = w' :=
  has_calls b _ _ c w (set_cell h).1 (set_cell h).2 hc
end Go.Proofs.YtfmcdlbbbmeolaaGreatDoor.Sync
end
section
namespace Go.Proofs.YtfmcdlbbbmeolaaGreatDoor.Sync
open Go.RowKit Go.Lib Go.Proofs.YtfmcdlbbbmeolaaGreatDoor.Base Go.Proofs.YtfmcdlbbbmeolaaGreatDoorW.PrintWords Go.Proofs.YtfmcdlbbbmeolaaGreatDoorW.PrintLast Go.Proofs.YtfmcdlbbbmeolaaGreatDoorW.PrintMore
open Go.Proofs.YtfmcdlbbbmeolaaGreatDoor.Ext (lower_calls lowB)
set_option linter.unusedVariables false
set_option linter.unusedSimpArgs false
theorem cut_size (s : ByteArray) : (cutS s).size ≤ s.size := by
  have h1 : (cutS s).size = ((stripL s.data.toList).filter fun b => !brk b).length := rfl
  have h2 : ((stripL s.data.toList).filter fun b => !brk b).length ≤ (stripL s.data.toList).length := List.length_filter_le _ _
  have h3 : (stripL s.data.toList).length ≤ s.data.toList.length := (List.dropWhile_sublist _).length_le
  have h4 : s.data.toList.length = s.size := rfl
  omega
def schSet : List UInt8 := [43, 45, 46]
def pre2 (l : List UInt8) : Nat := (l.takeWhile fun b => inSet schSet b.toNat).length
theorem pre2_le (l : List UInt8) : pre2 l ≤ l.length := (List.takeWhile_sublist _).length_le
theorem pre2_cons (b : UInt8) (l : List UInt8) : pre2 (b :: l) = if inSet schSet b.toNat = true then pre2 l + 1 else 0 := by
  unfold pre2
  rw [List.takeWhile_cons]
  split <;> simp
def schL (t : List UInt8) : List UInt8 × Bool :=
  if t = [] then ([], false)
  else if letN (t.getD 0 0).toNat = false then ([], false)
  else if pre2 t = t.length ∨ t.getD (pre2 t) 0 ≠ 58 then ([], false)
  else ((t.take (pre2 t)).map lowB, true)
set_option maxRecDepth 100000 in
set_option maxHeartbeats 3200000 in
theorem scheme_calls (s : ByteArray) (w : World) (hs : s.size ≤ 140737488355328) :
    Calls Tryz.prog 70 #[.string s] w fun e w' => e = .returned (.tuple #[.string ⟨(schL (cutS s).data.toList).1.toArray⟩, .bool (schL (cutS s).data.toList).2]) ∧ Below w.heap.size w w' := by
  have HDr := Aside0.mk (drop_calls s w hs)
  obtain ⟨t, ht⟩ : ∃ t, cutS s = t := ⟨_, rfl⟩
  rw [ht] at HDr ⊢
  have HTS := Aside0.mk (show t.size ≤ 140737488355328 by rw [← ht]; exact Nat.le_trans (cut_size s) hs)
  clear ht hs
  by_cases h0 : t.size = 0
  · have hte : t.toList.isEmpty = true := by rw [ByteArray.toList_eq, List.length_eq_zero_iff.1 (show t.data.toList.length = 0 from h0)]; rfl
    have hr : schL t.data.toList = ([], false) := by unfold schL; rw [if_pos (List.length_eq_zero_iff.1 h0)]
    have HR := Aside0.mk hr
    clear h0 hr
    go_enter Tryz.func70, Tryz.ntmps70
    go_wp2_with (go_at_call 131; refine HDr.out.mono ?_; rintro e w1 ⟨rfl, hb1⟩)
    go_ret2
    exact ⟨by rw [HR.out]; rfl, hb1⟩
  have h1 : 0 < t.size := by omega
  have hte : t.toList.isEmpty = false := by
    rw [ByteArray.toList_eq]
    cases hq : t.data.toList with
    | nil => exact absurd (show t.size = 0 from (congrArg List.length hq)) h0
    | cons b l => rfl
  have hne : t.data.toList ≠ [] := fun e => h0 (congrArg List.length e)
  obtain ⟨x, hx⟩ : ∃ x : UInt8, (t[0]'h1) = x := ⟨_, rfl⟩
  have hx0 : t.data.toList.getD 0 0 = x := by rw [List.getD_eq_getElem?_getD, List.getElem?_eq_getElem (show 0 < t.data.toList.length from h1)]; exact hx
  have HLt := Aside0.mk (fun w => letter_calls x.toNat w)
  have HNE := Aside0.mk hne
  have HX0 := Aside0.mk hx0
  clear h0 hne hx0
  by_cases hl : letN x.toNat = true
  · rw [hl] at HLt
    have HLX := Aside0.mk hl
    have HOf := Aside0.mk (fun w => of_calls ⟨#[43, 45, 46]⟩ w)
    clear hl
    go_enter Tryz.func70, Tryz.ntmps70
    go_upto_block 0 with (first
      | (go_at_call 131; refine HDr.out.mono ?_; rintro e w1 ⟨rfl, hb1⟩)
      | (go_at_call 132; refine (HLt.out _).mono ?_; rintro e w2 ⟨rfl, rfl⟩)
      | (go_at_call 133; refine (HOf.out _).mono ?_; rintro e w3 ⟨b, rfl, hS3, hb3⟩))
    have HB1 := Aside0.mk hb1
    have HB3 := Aside0.mk (hb1.trans (hb3.mono hb1.size))
    have HS3 := Aside0.mk (show SetAt schSet 128 b w3 from hS3)
    obtain ⟨i, hi⟩ : ∃ i, pre2 t.data.toList = i := ⟨_, rfl⟩
    have hile : i ≤ t.size := by rw [← hi]; exact pre2_le t.data.toList
    have HI := Aside0.mk hi
    clear hb1 hb3 hS3 hi hx h1
    go_cut [5] (fun v5 wc => v5 = .int .i64 i ∧ w3 = wc)
    case first =>
      go_wp2
      go_loopg [5] t.size (fun gg v5 wr => ∃ k : Nat, k ≤ t.size ∧ Aside0 (gg = t.size - k) ∧ v5 = .int .i64 k ∧ Aside0 (k + pre2 (t.data.toList.drop k) = i) ∧ w3 = wr)
      case atStart => exact ⟨0, Nat.zero_le _, ⟨rfl⟩, rfl, ⟨by rw [List.drop_zero, Nat.zero_add]; exact HI.out⟩, rfl⟩
      case round =>
        obtain ⟨k, hk, HK, rfl, HP, rfl⟩ := hrel
        have hts := HTS.out
        by_cases hlt : k < t.size
        · have hkl : k < t.data.toList.length := hlt
          obtain ⟨y, hy⟩ : ∃ y : UInt8, (t[k]'hlt) = y := ⟨_, rfl⟩
          have hyl : t.data.toList[k] = y := hy
          have hpr : pre2 (t.data.toList.drop k) = if inSet schSet y.toNat = true then pre2 (t.data.toList.drop (k + 1)) + 1 else 0 := by rw [List.drop_eq_getElem_cons hkl, pre2_cons, hyl]
          have hy256 : (y.toNat : Int) < 256 := by have := y.toNat_lt; omega
          have hz : (k : Int) < (t.size : Int) := by omega
          have hzb : decide ((k : Int) < (t.size : Int)) = true := decide_eq_true hz
          have HH := Aside0.mk (set_calls HS3.out y.toNat y.toNat_lt)
          by_cases hq : inSet schSet y.toNat = true
          · rw [hq] at HH
            rw [if_pos hq] at hpr
            have HPR := Aside0.mk hpr
            clear hq hpr hyl hkl hile
            go_wp2_with (go_at_call 134; refine HH.out.mono ?_; rintro e w4 ⟨rfl, rfl⟩)
            go_roundg (t.size - (k + 1))
            case rel => exact ⟨k + 1, by omega, ⟨rfl⟩, by go_num, ⟨by have := HP.out; have := HPR.out; omega⟩, rfl⟩
            case measure => have := HK.out; omega
          · have hq2 : inSet schSet y.toNat = false := by simpa using hq
            rw [hq2] at HH
            rw [if_neg hq] at hpr
            have hki : k = i := by have := HP.out; omega
            have HKI := Aside0.mk hki
            clear hq hq2 hpr hyl hkl hile hki
            go_wp2_with (go_at_call 134; refine HH.out.mono ?_; rintro e w4 ⟨rfl, rfl⟩)
            go_meet
            exact ⟨by rw [HKI.out], rfl⟩
        · obtain rfl : k = t.size := by omega
          have hki : t.size = i := by
            have h2 : t.data.toList.drop t.size = [] := List.drop_eq_nil_of_le (Nat.le_refl _)
            have := HP.out
            rw [h2] at this
            exact this
          have HKI := Aside0.mk hki
          have hzb : decide ((t.size : Int) < (t.size : Int)) = false := decide_eq_false (by omega)
          clear hlt hk hki hile
          go_wp2
          go_meet
          exact ⟨by rw [HKI.out], rfl⟩
    case rest =>
      obtain ⟨rfl, rfl⟩ := hcut
      clear HLt HOf HDr
      by_cases he : i = t.size
      · have hr : schL t.data.toList = ([], false) := by unfold schL; rw [if_neg HNE.out, HX0.out, if_neg (by rw [HLX.out]; decide), if_pos (.inl (by rw [HI.out]; exact he))]
        have HR := Aside0.mk hr
        clear hr hile
        subst he
        go_wp2
        go_ret2
        exact ⟨by rw [HR.out]; rfl, HB3.out⟩
      · have hlt : i < t.size := by omega
        obtain ⟨y, hy⟩ : ∃ y : UInt8, (t[i]'hlt) = y := ⟨_, rfl⟩
        have hyl : t.data.toList.getD i 0 = y := by rw [List.getD_eq_getElem?_getD, List.getElem?_eq_getElem (show i < t.data.toList.length from hlt)]; exact hy
        have hz : (i : Int) < (t.size : Int) := by omega
        have hzb : ((i : Int) == (t.size : Int)) = false := by rw [beq_eq_false_iff_ne]; omega
        by_cases h58 : y.toNat = 58
        · have hy58 : y = 58 := UInt8.toNat_inj.1 h58
          have hr : schL t.data.toList = ((t.data.toList.take i).map lowB, true) := by unfold schL; rw [if_neg HNE.out, HX0.out, if_neg (by rw [HLX.out]; decide), if_neg (by rw [HI.out]; rintro (h | h); exact he h; exact h (hyl.trans hy58)), HI.out]
          have HR := Aside0.mk hr
          have hzc : ((y.toNat : Int) != 58) = false := by rw [h58]; rfl
          have hz2 : (i : Int) ≤ (t.size : Int) := by omega
          have HLo := Aside0.mk (fun w => lower_calls (t.extract 0 i) w (Nat.le_trans (show (t.extract 0 i).size ≤ t.size by simp; omega) (Nat.le_trans HTS.out (by decide))))
          have HED := Aside0.mk (show (t.extract 0 i).data.toList = t.data.toList.take i from by rw [Lib.extract_data]; simp)
          clear hr hyl hy58 h58 he hile
          go_wp2_with (go_at_call 135; refine (HLo.out _).mono ?_; rintro e w5 ⟨rfl, hb5⟩)
          go_ret2
          exact ⟨by rw [HR.out, List.map_take]; rfl, HB3.out.trans (hb5.mono HB3.out.size)⟩
        · have hr : schL t.data.toList = ([], false) := by unfold schL; rw [if_neg HNE.out, HX0.out, if_neg (by rw [HLX.out]; decide), if_pos (.inr (by rw [HI.out, hyl]; intro h; exact h58 (by rw [h]; rfl)))]
          have HR := Aside0.mk hr
          have hzc : ((y.toNat : Int) != 58) = true := by rw [bne_iff_ne]; omega
          clear hr hyl h58 he hile
          go_wp2
          go_ret2
          exact ⟨by rw [HR.out]; rfl, HB3.out⟩
  · have hl : letN x.toNat = false := by simpa using hl
    rw [hl] at HLt
    have hr : schL t.data.toList = ([], false) := by unfold schL; rw [if_neg HNE.out, HX0.out, if_pos hl]
    have HR := Aside0.mk hr
    clear hl hr
    go_enter Tryz.func70, Tryz.ntmps70
    go_wp2_with (first
      | (go_at_call 131; refine HDr.out.mono ?_; rintro e w1 ⟨rfl, hb1⟩)
      | (go_at_call 132; refine (HLt.out _).mono ?_; rintro e w2 ⟨rfl, rfl⟩))
    go_ret2
    exact ⟨by rw [HR.out]; rfl, hb1⟩
end Go.Proofs.YtfmcdlbbbmeolaaGreatDoor.Sync
end
section
namespace Go.Proofs.YtfmcdlbbbmeolaaGreatDoor.ExtP
open Go.RowKit Go.Lib Go.Proofs.YtfmcdlbbbmeolaaGreatDoorW.PrintWords Go.Proofs.YtfmcdlbbbmeolaaGreatDoorW.PrintLast Go.Proofs.YtfmcdlbbbmeolaaGreatDoorW.PrintMore Go.Proofs.YtfmcdlbbbmeolaaGreatDoor.Sync
def schS (a0 : ByteArray) : ByteArray × Bool := (⟨(schL (cutS a0).data.toList).1.toArray⟩, (schL (cutS a0).data.toList).2)
def url_Scheme.f (a0 : ByteArray) : Option (ByteArray × Bool) := if a0.size ≤ 140737488355328 then some (schS a0) else none
theorem url_Scheme.calls (a0 : ByteArray) (r1 : ByteArray) (r2 : Bool) (w : World) (h : url_Scheme.f a0 = some (r1, r2)) :
    Calls Tryz.prog 70 #[.string a0] w fun e w' => e = .returned (.tuple #[.string r1, .bool r2]) ∧ Below w.heap.size w w' := by
  unfold url_Scheme.f at h
  by_cases hs : a0.size ≤ 140737488355328
  · rw [if_pos hs] at h
    unfold schS at h
    obtain ⟨h1, h2⟩ := Prod.mk.inj (Option.some.inj h)
    subst h1; subst h2
    exact scheme_calls a0 w hs
  · rw [if_neg hs] at h; cases h
end Go.Proofs.YtfmcdlbbbmeolaaGreatDoor.ExtP
end
