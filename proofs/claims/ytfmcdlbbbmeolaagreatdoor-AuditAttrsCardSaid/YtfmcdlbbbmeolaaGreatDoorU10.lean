/- strings.Replace at an old that is not empty, n = -1: walked. strings.ReplaceAll, utf.Lines: walked; what Lines gives, plain. -/
import Derived.Test.YtfmcdlbbbmeolaaGreatDoorU0
import Derived.Test.YtfmcdlbbbmeolaaGreatDoorU9
import Derived.Test.YtfmcdlbbbmeolaaGreatDoorU1
import Derived.Test.YtfmcdlbbbmeolaaGreatDoorU2
import Derived.Lib.ReplaceLaws
import Derived.Outline
import Derived.Handy
section
namespace Go.Proofs.YtfmcdlbbbmeolaaGreatDoor.Ln
open Go.RowKit Go.Lib Go.Proofs.YtfmcdlbbbmeolaaGreatDoorW.PrintWords Go.Proofs.YtfmcdlbbbmeolaaGreatDoorW.PrintLast Go.Proofs.YtfmcdlbbbmeolaaGreatDoorW.PrintMore Go.Proofs.YtfmcdlbbbmeolaaGreatDoor.Utf Go.Proofs.YtfmcdlbbbmeolaaGreatDoor.Bld Go.Proofs.YtfmcdlbbbmeolaaGreatDoor.Refs
attribute [local go_sem ↓] Go.wp_at_zero Go.wp_at_succ
set_option linter.unusedVariables false
set_option linter.unusedSimpArgs false
set_option maxRecDepth 100000
theorem slice_run {P : Program} (T : TypeId) (s : ByteArray) (i j : Nat) (h : i ≤ j) (h2 : j ≤ s.size) (W : World) (hT : P.underlying T = some .string) : (Instr.slice T (.string s) (some (.int .i64 (i : Int))) (some (.int .i64 (j : Int))) none).run P W = .ok (.string (s.extract i j)) W := by
  rw [run_slice_string W T s .i64 .i64 (i : Int) (j : Int) hT (by omega) (by omega) (by omega), Int.toNat_natCast, Int.toNat_natCast]
theorem from_run {P : Program} (T : TypeId) (s : ByteArray) (i : Nat) (h2 : i ≤ s.size) (W : World) (hT : P.underlying T = some .string) : (Instr.slice T (.string s) (some (.int .i64 (i : Int))) none none).run P W = .ok (.string (s.extract i s.size)) W := by
  rw [run_slice_string_l W T s hT .i64 (i : Int) (by omega) (by omega), Int.toNat_natCast]
theorem bytes_str (l : List UInt8) (t : ByteArray) : byteCells l ++ strCells t = byteCells (l ++ t.data.toList) := by rw [strCells_eq, ← byteCells_append]
theorem w64 (n : Nat) (h : n ≤ 100000000) : IntKind.i64.wrap (n : Int) = n := IntWalk.i64_in _ (by omega)
def MaxAt (m : Int) (w : World) : Prop := w.cell? ⟨1, 0, none⟩ = some (.int .i64 m)
theorem MaxAt.below {m : Int} {w w' : World} (h : MaxAt m w) (hb : Below w.heap.size w w') : MaxAt m w' := pw_cell_below hb h
theorem MaxAt.lt {m : Int} {w : World} (h : MaxAt m w) : 1 < w.heap.size := World.block_lt_of_cell? _ _ h
def CountP (s old : ByteArray) (m : Int) : Prop := ∀ w, MaxAt m w → Calls Tryz.prog 188 #[.string s, .string old] w fun e w' => e = .returned (.int .i64 (countB s old)) ∧ w = w'
set_option maxHeartbeats 6400000 in
theorem replace_calls (s old new : ByteArray) (m : Int) (w : World) (hm : MaxAt m w) (hs : s.size ≤ 1000000) (h1 : 1 ≤ old.size) (hn : new.size ≤ 4) (hne : old ≠ new) (hC : CountP s old m) :
    Calls Tryz.prog 150 #[.string s, .string old, .string new, .int .i64 (-1)] w fun e w' => e = .returned (.string ⟨(replaceAll s.data.toList old.data.toList new.data.toList).toArray⟩) ∧ Below w.heap.size w w' := by
  have HC := Aside0.mk hC
  have HM := Aside0.mk hm
  have hmul := countB_mul_le old h1 s.size s (Nat.le_refl _)
  have hlo : old.data.toList.length = old.size := (size_eq old).symm
  have hls : s.data.toList.length = s.size := (size_eq s).symm
  have hne' : (old.data.toList == new.data.toList) = false := by
    rw [beq_eq_false_iff_ne]; intro e; exact hne (Go.Proofs.YtfmcdlbbbmeolaaGreatDoor.Base.ext_list e)
  have hbeq : (old.toList == new.toList) = false := by rw [ByteArray.toList_eq, ByteArray.toList_eq]; exact hne'
  obtain ⟨K, hK⟩ : ∃ K : Nat, countB s old = K := ⟨_, rfl⟩
  have hR : replaceAll s.data.toList old.data.toList new.data.toList = replaceK old.data.toList new.data.toList K s.data.toList := by
    unfold replaceAll replace replaceNum
    rw [hne', if_neg (by simp), if_pos (Or.inl (by omega))]
    show replaceK _ _ (countB s old) _ = _
    rw [hK]
  have hKc : K ≤ count (s.data.toList.drop 0) old.data.toList := by rw [List.drop_zero]; exact Nat.le_of_eq hK.symm
  rw [hR]
  unfold CountP at HC
  rw [hK] at HC hmul
  have HCC := Aside0.mk (HC.out w hm)
  clear hC hR hK hne hne' hm HC
  by_cases k0 : K = 0
  · subst k0
    have hz : (⟨(replaceK old.data.toList new.data.toList 0 s.data.toList).toArray⟩ : ByteArray) = s := Go.Proofs.YtfmcdlbbbmeolaaGreatDoor.Base.ext_list rfl
    rw [hz]
    go_enter Tryz.func150, Tryz.ntmps150
    go_wp2_with (go_at_call 188; refine HCC.out.mono ?_; rintro e w1 ⟨rfl, rfl⟩)
    go_ret
    exact ⟨rfl, Below.refl _ _⟩
  · have hcz : ((K : Int) == 0) = false := by rw [beq_eq_false_iff_ne]; omega
    have hKo : K * old.size ≤ s.size := hmul
    have hKs : K ≤ s.size := Nat.le_trans (Nat.le_mul_of_pos_right K (by omega)) hmul
    have hKn : K * new.size ≤ 4000000 := Nat.le_trans (Nat.mul_le_mul (show K ≤ 1000000 by omega) hn) (by omega)
    have hga := grow_arg s.size K new.size old.size (by omega) hKo (by omega)
    have hod : decide ((0 : Int) < (old.size : Int)) = true := decide_eq_true (by omega)
    have hop : 0 < old.size := by omega
    obtain ⟨G, hG⟩ : ∃ G, s.size + K * new.size - K * old.size = G := ⟨_, rfl⟩
    rw [hG] at hga
    have hGr := Grow_fresh w.heap.size w.heap.size G (w.alloc (.cells #[.pointer none, .slice none 0 0] 108)) (Nat.le_refl _) (heap_alloc_new w _) (by simp) (by omega)
    have HG := Aside0.mk hGr
    obtain ⟨R, hRR⟩ : ∃ R, replaceK old.data.toList new.data.toList K s.data.toList = R := ⟨_, rfl⟩
    have HR0 := Aside0.mk hRR
    have HKC := Aside0.mk hKc
    have HO := Aside0.mk hlo
    have HLS := Aside0.mk hls
    have HHS := Aside0.mk hs
    have HK := Aside0.mk hKs
    have HHN := Aside0.mk hn
    have HKN := Aside0.mk hKn
    rw [hRR]
    clear hmul hKo hG hGr hKc hlo hls hs hn hRR k0
    go_enter Tryz.func150, Tryz.ntmps150
    go_wp2_with (first | (go_at_call 188; refine HCC.out.mono ?_; rintro e w1 ⟨rfl, rfl⟩) | (go_at_call 202; refine HG.out.mono ?_; rintro e w1 ⟨rfl, hI, hb⟩; have H1 := Aside0.mk (show IsBuilderF 108 5 w.heap.size w.heap.size (byteCells []) w1 from IsBuilderF.of (.inr hI)); have B1 := Aside0.mk (((Below.refl w.heap.size w).alloc (Nat.le_refl _) _).trans hb); clear hI hb))
    go_loopw [11, 53] (fun a c wr => ∃ (st i : Nat) (acc : List UInt8), a = .int .i64 (st : Int) ∧ c = .int .i64 (i : Int) ∧ i ≤ K ∧ st ≤ s.size ∧ Aside0 (IsBuilderF 108 5 w.heap.size w.heap.size (byteCells acc) wr) ∧ Aside0 (Below w.heap.size w wr) ∧
        Aside0 (acc ++ replaceK old.data.toList new.data.toList (K - i) (s.data.toList.drop st) = R) ∧ Aside0 (K - i ≤ count (s.data.toList.drop st) old.data.toList) ∧ acc.length ≤ st + 4 * i)
      (fun _ c _ => K - (RowKit.intOf c).toNat)
    case atStart => exact ⟨0, 0, [], rfl, rfl, Nat.zero_le _, Nat.zero_le _, H1, B1, ⟨by rw [List.nil_append, Nat.sub_zero, List.drop_zero]; exact HR0.out⟩, ⟨by rw [Nat.sub_zero]; exact HKC.out⟩, by simp⟩
    case round =>
      obtain ⟨st, i, acc, rfl, rfl, hik, hst, HI, HX, HA, HCt, hacc⟩ := hrel
      have hrun1 := fun W => from_run (P := Tryz.prog) 9 s st hst W Tryz.underlying9
      obtain ⟨t, ht⟩ : ∃ t, s.extract st s.size = t := ⟨_, rfl⟩
      have htd : t.data.toList = s.data.toList.drop st := by rw [← ht]; exact drop_data s st
      have hts : t.size = s.size - st := by rw [← ht, ByteArray.size_extract]; omega
      rw [ht] at hrun1
      rw [← htd] at HA HCt
      have HTD := Aside0.mk htd
      have hsz := HHS.out
      have hKs := HK.out
      have hnw := HHN.out
      have hos := HO.out
      have hMr := HM.out.below HX.out
      clear ht htd
      by_cases hlt : i < K
      · obtain ⟨j, hj⟩ := index_of_count (s := t.data.toList) (old := old.data.toList) (by have := HCt.out; omega)
        have hroom := index_room t.data.toList old.data.toList (by omega)
        rw [hj, hos] at hroom
        have htl : t.data.toList.length = t.size := (size_eq t).symm
        obtain ⟨jj, hjj⟩ : ∃ jj, st + j = jj := ⟨_, rfl⟩
        obtain ⟨s2, hs2⟩ : ∃ s2, jj + old.size = s2 := ⟨_, rfl⟩
        have hw1 : IntKind.i64.wrap ((st : Int) + (j : Int)) = (jj : Int) := by rw [show (st : Int) + (j : Int) = (jj : Int) by omega]; exact w64 _ (by omega)
        have hw2 : IntKind.i64.wrap ((jj : Int) + (old.size : Int)) = (s2 : Int) := by rw [show (jj : Int) + (old.size : Int) = (s2 : Int) by omega]; exact w64 _ (by omega)
        have hrun2 := fun W => slice_run (P := Tryz.prog) 9 s st jj (by omega) (by omega) W Tryz.underlying9
        obtain ⟨q, hq⟩ : ∃ q, s.extract st jj = q := ⟨_, rfl⟩
        have hqd : q.data.toList = t.data.toList.take j := by rw [← hq, extract_data, HTD.out]; congr 1; omega
        have hql : q.size = j := by rw [← hq, ByteArray.size_extract]; omega
        have hql2 : q.data.toList.length = j := by rw [← hql]; exact (size_eq q).symm
        rw [hq] at hrun2
        have hIx := Tryz.strings_Index t old m wr (by omega) hMr
        rw [hj] at hIx
        have HIx := Aside0.mk hIx
        have HWa := Aside0.mk (writeString w.heap.size w.heap.size (byteCells acc) q wr HI.out (by rw [byteCells_length]; omega) HX.out.size)
        have hcnt := count_hit (s := t.data.toList) (sub := old.data.toList) (i := j) (fun e => by rw [e] at hos; simp at hos; omega) hj
        have hrep := replaceK_hit old.data.toList new.data.toList (K - (i + 1)) t.data.toList j hj
        rw [show K - (i + 1) + 1 = K - i by omega] at hrep
        have hdr : t.data.toList.drop (j + old.data.toList.length) = s.data.toList.drop s2 := by rw [HTD.out, List.drop_drop, hos]; congr 1; omega
        rw [hdr] at hrep hcnt
        have HA2 := Aside0.mk (show (acc ++ q.data.toList ++ new.data.toList) ++ replaceK old.data.toList new.data.toList (K - (i + 1)) (s.data.toList.drop s2) = R by rw [← HA.out, hrep, hqd]; simp only [List.append_assoc])
        have HC2 := Aside0.mk (show K - (i + 1) ≤ count (s.data.toList.drop s2) old.data.toList by have := HCt.out; omega)
        have hs2l : s2 ≤ s.size := by omega
        have HEN := Aside0.mk (show (acc ++ q.data.toList ++ new.data.toList).length ≤ s2 + 4 * (i + 1) by have hnl : new.data.toList.length = new.size := (size_eq new).symm; simp only [List.length_append, hql2, hnl]; omega)
        have HLEN := Aside0.mk (show (byteCells (acc ++ q.data.toList)).length + new.size ≤ 140737488355328 by rw [byteCells_length, List.length_append, hql2]; omega)
        clear hIx hj hroom htl hjj hs2 hq hqd hql hql2 hcnt hrep hdr HA HCt hts hMr HCC HG H1 B1 HR0 HKC hos
        go_wp2_with (first | (go_at_call 189; (with_reducible refine HIx.out.mono ?_); rintro e w2 ⟨rfl, hw2_⟩; subst hw2_) | (go_at_call 66; (with_reducible refine HWa.out.mono ?_); rintro e w3 ⟨rfl, hi3, hb3, _⟩; have HI3 : Aside0 (IsBuilderF 108 5 w.heap.size w.heap.size (byteCells (acc ++ q.data.toList)) w3) := ⟨by rw [← bytes_str]; exact .inr hi3⟩; have HX3 := Aside0.mk (HX.out.trans hb3); have HWb := Aside0.mk (writeString w.heap.size w.heap.size (byteCells (acc ++ q.data.toList)) new w3 HI3.out HLEN.out HX3.out.size); clear hi3 hb3) | (go_at_call 66; (with_reducible refine HWb.out.mono ?_); rintro e w4 ⟨rfl, hi4, hb4, _⟩; have HI4 : Aside0 (IsBuilderF 108 5 w.heap.size w.heap.size (byteCells (acc ++ q.data.toList ++ new.data.toList)) w4) := ⟨by rw [← bytes_str (acc ++ q.data.toList)]; exact .inr hi4⟩; have HX4 := Aside0.mk (HX3.out.trans hb4); clear hi4 hb4))
        go_roundw
        case rel => exact ⟨s2, i + 1, acc ++ q.data.toList ++ new.data.toList, rfl, by go_num, by omega, hs2l, HI4, HX4, HA2, HC2, HEN.out⟩
        case measure => simp [RowKit.intOf]; omega
      · have hi : i = K := by omega
        subst hi
        have HA2 := Aside0.mk (show acc ++ t.data.toList = R by rw [← HA.out, Nat.sub_self]; rfl)
        have HWa := Aside0.mk (writeString w.heap.size w.heap.size (byteCells acc) t wr HI.out (by rw [byteCells_length]; omega) HX.out.size)
        clear HA HCt HCC HG H1 B1 HR0 HKC
        go_wp2_with (first | (go_at_call 66; (with_reducible refine HWa.out.mono ?_); rintro e w3 ⟨rfl, hi3, hb3, _⟩; have HI3 : Aside0 (IsBuilderF 108 5 w.heap.size w.heap.size (byteCells R) w3) := ⟨by rw [← HA2.out, ← bytes_str]; exact .inr hi3⟩; have HX3 := Aside0.mk (HX.out.trans hb3); have HS := Aside0.mk (Tryz.Builder_String_any_f w.heap.size w.heap.size R w3 HI3.out HX3.out.size); clear hi3 hb3) | (go_at_call 68; refine HS.out.mono ?_; rintro e w4 ⟨rfl, _, hb4⟩))
        go_ret
        exact ⟨rfl, HX3.out.trans hb4⟩
section
variable {old new : List UInt8}
def rp (old new s : List UInt8) : List UInt8 := replaceK old new (count s old) s
theorem rp_miss {s : List UInt8} (h : index s old = -1) : rp old new s = s := by unfold rp; rw [count_miss h]; rfl
theorem rp_hit {s : List UInt8} {i : Nat} (h0 : old ≠ []) (h : index s old = i) : rp old new s = s.take i ++ new ++ rp old new (s.drop (i + old.length)) := by
  unfold rp; rw [count_hit h0 h, Nat.add_comm 1, replaceK_hit _ _ _ _ i h]
theorem rp_nil (h0 : old ≠ []) : rp old new [] = [] := rp_miss (by cases old with | nil => exact absurd rfl h0 | cons a l => rfl)
theorem rp_pre {b : UInt8} {l : List UInt8} (h0 : old ≠ []) (h : old.isPrefixOf (b :: l) = true) : rp old new (b :: l) = new ++ rp old new ((b :: l).drop old.length) := by
  have hi : index (b :: l) old = ((0 : Nat) : Int) := by unfold index; rw [if_pos h]; rfl
  rw [rp_hit h0 hi, Nat.zero_add]; rfl
theorem rp_skip {b : UInt8} {l : List UInt8} (h0 : old ≠ []) (h : old.isPrefixOf (b :: l) = false) : rp old new (b :: l) = b :: rp old new l := by
  have hg := index_ge l old
  have hi : index (b :: l) old = if index l old == -1 then -1 else index l old + 1 := by
    show (if old.isPrefixOf (b :: l) = true then (0 : Int) else _) = _
    rw [if_neg (by rw [h]; simp)]
  by_cases hm : index l old = -1
  · rw [hm] at hi
    rw [rp_miss (s := b :: l) hi, rp_miss hm]
  · rw [if_neg (by simpa using hm)] at hi
    obtain ⟨i, hl⟩ : ∃ i : Nat, index l old = i := ⟨(index l old).toNat, by omega⟩
    rw [hl] at hi
    have hi2 : index (b :: l) old = ((i + 1 : Nat) : Int) := by rw [hi]; omega
    rw [rp_hit h0 hi2, rp_hit h0 hl, show i + 1 + old.length = (i + old.length) + 1 by omega]
    rfl
end
theorem pre1 {c : UInt8} {l : List UInt8} (h : c ≠ 13) : ([13] : List UInt8).isPrefixOf (c :: l) = false := by
  show ((13 : UInt8) == c && List.isPrefixOf [] l) = false
  rw [beq_eq_false_iff_ne.2 (fun e => h e.symm)]; rfl
theorem pre20 (c : UInt8) : ([13, 10] : List UInt8).isPrefixOf [c] = false := by
  show ((13 : UInt8) == c && false) = false
  exact Bool.and_false _
theorem pre2 {c d : UInt8} {l : List UInt8} (h : ¬ (c = 13 ∧ d = 10)) : ([13, 10] : List UInt8).isPrefixOf (c :: d :: l) = false := by
  show ((13 : UInt8) == c && ((10 : UInt8) == d && List.isPrefixOf [] l)) = false
  by_cases hc : c = 13
  · rw [beq_eq_false_iff_ne.2 (show (10 : UInt8) ≠ d from fun e => h ⟨hc, e.symm⟩), Bool.false_and, Bool.and_false]
  · rw [beq_eq_false_iff_ne.2 (show (13 : UInt8) ≠ c from fun e => hc e.symm), Bool.false_and]
def linesL : List UInt8 → List UInt8
  | [] => []
  | [c] => [if c = 13 then 10 else c]
  | c :: d :: l => if c = 13 ∧ d = 10 then 10 :: linesL l else (if c = 13 then 10 else c) :: linesL (d :: l)
theorem rp1 (c : UInt8) (l : List UInt8) : rp [13] [10] (c :: l) = (if c = 13 then 10 else c) :: rp [13] [10] l := by
  by_cases h : c = 13
  · subst h; rw [rp_pre (old := [13]) (b := 13) (l := l) (by simp) (by simp)]; rfl
  · rw [rp_skip (old := [13]) (b := c) (l := l) (by simp) (pre1 h), if_neg h]
theorem lines_rp : ∀ s : List UInt8, rp [13] [10] (rp [13, 10] [10] s) = linesL s
  | [] => by rw [rp_nil (old := [13, 10]) (by simp), rp_nil (old := [13]) (by simp)]; rfl
  | [c] => by
    rw [rp_skip (old := [13, 10]) (b := c) (l := []) (by simp) (pre20 c), rp_nil (old := [13, 10]) (by simp), rp1, rp_nil (old := [13]) (by simp)]; rfl
  | c :: d :: l => by
    by_cases h : c = 13 ∧ d = 10
    · obtain ⟨rfl, rfl⟩ := h
      rw [rp_pre (old := [13, 10]) (b := 13) (l := 10 :: l) (by simp) (by simp)]
      show rp [13] [10] (10 :: rp [13, 10] [10] l) = _
      rw [rp1, lines_rp l]; rfl
    · rw [rp_skip (old := [13, 10]) (b := c) (l := d :: l) (by simp) (pre2 h), rp1, lines_rp (d :: l), linesL, if_neg h]
theorem lines_len : ∀ s : List UInt8, (linesL s).length ≤ s.length
  | [] => Nat.le_refl _
  | [c] => Nat.le_refl _
  | c :: d :: l => by
    unfold linesL
    split
    · have := lines_len l; simp only [List.length_cons]; omega
    · have := lines_len (d :: l); simp only [List.length_cons] at *; omega
theorem lines_none : ∀ s : List UInt8, (∀ b ∈ s, b ≠ 13) → linesL s = s
  | [], _ => rfl
  | [c], h => by unfold linesL; rw [if_neg (h c (by simp))]
  | c :: d :: l, h => by
    have hc := h c (by simp)
    rw [linesL, if_neg (fun e => hc e.1), if_neg hc, lines_none (d :: l) (fun b hb => h b (List.mem_cons_of_mem _ hb))]
theorem rep_all (s old new : List UInt8) (h : (old == new) = false) : replaceAll s old new = rp old new s := by
  unfold replaceAll replace replaceNum rp
  rw [h, if_neg (by simp), if_pos (Or.inl (by omega))]
theorem rp_len2 : ∀ s : List UInt8, (rp [13, 10] [10] s).length ≤ s.length
  | [] => by rw [rp_nil (old := [13, 10]) (by simp)]; exact Nat.le_refl _
  | [c] => by rw [rp_skip (old := [13, 10]) (b := c) (l := []) (by simp) (pre20 c), rp_nil (old := [13, 10]) (by simp)]; exact Nat.le_refl _
  | c :: d :: l => by
    by_cases h : c = 13 ∧ d = 10
    · obtain ⟨rfl, rfl⟩ := h
      rw [rp_pre (old := [13, 10]) (b := 13) (l := 10 :: l) (by simp) (by simp)]
      have := rp_len2 l
      simp only [List.length_append, List.length_cons, List.length_nil, List.drop_succ_cons, List.drop_zero] at *
      omega
    · rw [rp_skip (old := [13, 10]) (b := c) (l := d :: l) (by simp) (pre2 h)]
      have := rp_len2 (d :: l)
      simp only [List.length_cons] at *
      omega
theorem count_two (s : ByteArray) (m : Int) (hs : s.size ≤ 1000000) : CountP s ⟨#[13, 10]⟩ m := fun w hm =>
  (Tryz.strings_Count s ⟨#[13, 10]⟩ m w (by omega) hm (by decide)).mono (fun e w' ⟨h1, h2⟩ => ⟨h1, h2.symm⟩)
theorem countFrom_one (c : UInt8) : ∀ (l : List UInt8) (f : Nat), l.length < f → countFrom [c] f l = l.count c
  | [], f, h => by
    obtain ⟨f, rfl⟩ : ∃ f', f = f' + 1 := ⟨f - 1, by simp at h; omega⟩
    rfl
  | b :: l, f, h => by
    have e1 : count (b :: l) [c] = countFrom [c] f (b :: l) := countFrom_fuel (by simp) _ _ (by simp) _ h
    have e2 : count l [c] = l.count c := countFrom_one c l _ (Nat.lt_succ_self _)
    rw [← e1]
    by_cases hb : c = b
    · subst hb
      have hi : index (c :: l) [c] = ((0 : Nat) : Int) := by unfold index; rw [if_pos (by simp)]; rfl
      rw [count_hit (by simp) hi]
      simp only [List.length_singleton, Nat.zero_add, List.drop_succ_cons, List.drop_zero, e2, List.count_cons_self]
      omega
    · have hg := index_ge l [c]
      have hi : index (b :: l) [c] = if index l [c] == -1 then -1 else index l [c] + 1 := by
        show (if [c].isPrefixOf (b :: l) = true then (0 : Int) else _) = _
        rw [if_neg (by simp [hb])]
      rw [List.count_cons_of_ne (fun e => hb e.symm), ← e2]
      by_cases hm : index l [c] = -1
      · rw [hm] at hi
        rw [count_miss (s := b :: l) hi, count_miss hm]
      · rw [if_neg (by simpa using hm)] at hi
        obtain ⟨i, hl⟩ : ∃ i : Nat, index l [c] = i := ⟨(index l [c]).toNat, by omega⟩
        rw [hl] at hi
        have hi2 : index (b :: l) [c] = ((i + 1 : Nat) : Int) := by rw [hi]; omega
        rw [count_hit (by simp) hi2, count_hit (by simp) hl, show i + 1 + [c].length = (i + [c].length) + 1 by omega]
        rfl
theorem count_one (s : ByteArray) (m : Int) : CountP s ⟨#[13]⟩ m := fun w hm =>
  (Tryz.strings_Count_one s 13 w).mono (fun e w' ⟨h1, h2⟩ => ⟨by rw [h1]; congr 2; show ((s.data.toList.count 13 : Nat) : Int) = ((countFrom [13] _ _ : Nat) : Int); rw [countFrom_one 13 _ _ (Nat.lt_succ_self _)], h2.symm⟩)
set_option maxHeartbeats 1600000 in
theorem replaceAll_calls (s old new : ByteArray) (m : Int) (w : World) (hm : MaxAt m w) (hs : s.size ≤ 1000000) (h1 : 1 ≤ old.size) (hn : new.size ≤ 4) (hne : old ≠ new) (hC : CountP s old m) :
    Calls Tryz.prog 84 #[.string s, .string old, .string new] w fun e w' => e = .returned (.string ⟨(replaceAll s.data.toList old.data.toList new.data.toList).toArray⟩) ∧ Below w.heap.size w w' := by
  have HR := Aside0.mk (replace_calls s old new m w hm hs h1 hn hne hC)
  clear hm hs h1 hn hne hC
  go_enter Tryz.func84, Tryz.ntmps84
  go_wp2_with (go_at_call 150; refine HR.out.mono ?_; rintro e w1 ⟨rfl, hb⟩)
  go_ret
  exact ⟨rfl, hb⟩
def linesB (s : ByteArray) : ByteArray := ⟨(linesL s.data.toList).toArray⟩
set_option maxHeartbeats 1600000 in
theorem lines_calls (s : ByteArray) (m : Int) (w : World) (hm : MaxAt m w) (hs : s.size ≤ 1000000) :
    Calls Tryz.prog 45 #[.string s] w fun e w' => e = .returned (.string (linesB s)) ∧ Below w.heap.size w w' := by
  have h1 := replaceAll_calls s ⟨#[13, 10]⟩ ⟨#[10]⟩ m w hm hs (by decide) (by decide) (fun e => absurd (congrArg (fun b : ByteArray => b.size) e) (by decide)) (count_two s m hs)
  obtain ⟨t, ht⟩ : ∃ t : ByteArray, (⟨(replaceAll s.data.toList [13, 10] [10]).toArray⟩ : ByteArray) = t := ⟨_, rfl⟩
  have hd : t.data.toList = rp [13, 10] [10] s.data.toList := by rw [← ht, ← rep_all _ _ _ (by decide)]
  have htl : t.size ≤ 1000000 := by
    have := rp_len2 s.data.toList
    rw [← hd] at this
    rw [show t.size = t.data.toList.length from size_eq t]
    have : s.data.toList.length = s.size := (size_eq s).symm
    omega
  have h1' : Calls Tryz.prog 84 #[.string s, .string ⟨#[13, 10]⟩, .string ⟨#[10]⟩] w fun e w' => e = .returned (.string t) ∧ Below w.heap.size w w' := by rw [← ht]; exact h1
  have H1 := Aside0.mk h1'
  have H2 := Aside0.mk (fun w (hm : MaxAt m w) => replaceAll_calls t ⟨#[13]⟩ ⟨#[10]⟩ m w hm htl (by decide) (by decide) (fun e => absurd (congrArg (fun b : ByteArray => b.data.toList) e) (by decide)) (count_one t m))
  have HE := Aside0.mk (show (⟨(replaceAll t.data.toList [13] [10]).toArray⟩ : ByteArray) = linesB s by unfold linesB; rw [rep_all _ _ _ (by decide), hd, lines_rp])
  have HM := Aside0.mk hm
  clear h1 h1' ht hd htl hm hs
  go_enter Tryz.func45, Tryz.ntmps45
  go_wp2_with (first | (go_at_call 84; (with_reducible refine H1.out.mono ?_); rintro e w1 ⟨rfl, hb1⟩; have H3 := Aside0.mk (H2.out w1 (HM.out.below hb1))) | (go_at_call 84; (with_reducible refine H3.out.mono ?_); rintro e w2 ⟨rfl, hb2⟩))
  go_ret
  exact ⟨by rw [← HE.out]; rfl, hb1.trans (hb2.mono hb1.size)⟩
end Go.Proofs.YtfmcdlbbbmeolaaGreatDoor.Ln
end
