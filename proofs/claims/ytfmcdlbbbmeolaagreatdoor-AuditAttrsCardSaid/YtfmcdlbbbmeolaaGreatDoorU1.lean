/- refs.Encode, refs.Decode. tok's states: plain. Laid by xprint.py, a program of this session over the kit's print: for each Go function one Lean function of the same answers, and the walk that shows it. Laid by xprint.py, a program of this session over the kit's print: for each Go function one Lean function of the same answers, and the walk that shows it. Laid by xprint.py, a program of this session over the kit's print: for each Go function one Lean function of the same answers, and the walk that shows it. Laid by xprint.py, a program of this session over the kit's print: for each Go function one Lean function of the same answers, and the walk that shows it. Laid by xprint.py, a program of this session over the kit's print: for each Go function one Lean function of the same answers, and the walk that shows it. -/
import Derived.Test.YtfmcdlbbbmeolaaGreatDoorU0
import Derived.Outline
import Derived.Deep.RegionHeld3
import Derived.Deep.DrawnRows
import Derived.Deep.QuietTactic
import Derived.BigQuiet
import Derived.Handy
import Derived.Test.YtfmcdlbbbmeolaaGreatDoorProg
import Derived.Below
import Derived.Deep.Draws
import Derived.Deep.AppendLies
import Derived.Maps.AppendAt
import Derived.OwnWalk
import Derived.Laws.BytesArg
import Derived.Laws.MakeOwn
import Derived.Laws.OwnMore
import Derived.Deep.OwnRows
import Derived.Tactics
import Derived.Lib.ConvBytes
import Derived.Laws.Slices
import Derived.WalkKit
import Derived.KernelRfl
import Derived.RowKit3
import Derived.Deep.LoopGhost
import Derived.WideLaws
import Derived.Deep.DeepCutAuto
import Derived.Deep.CutBlock
import Derived.Laws.Rows
import Derived.Lib.AppendStr
import Derived.ArgAppend
import Derived.Laws.IdiomCopy
import Derived.OrdersHeld
import Derived.Laws.BitsLemmas
import Derived.RowKit
import Derived.Test.YtfmcdlbbbmeolaaGreatDoorY0
import Derived.Test.YtfmcdlbbbmeolaaGreatDoorY1
import Derived.Test.YtfmcdlbbbmeolaaGreatDoorY2
section
namespace Go.Proofs.YtfmcdlbbbmeolaaGreatDoor.Refs
open Go.RowKit Go.Lib Go.Proofs.YtfmcdlbbbmeolaaGreatDoorW.PrintWords Go.Proofs.YtfmcdlbbbmeolaaGreatDoorW.PrintLast Go.Proofs.YtfmcdlbbbmeolaaGreatDoorW.PrintMore Go.Proofs.YtfmcdlbbbmeolaaGreatDoor.Utf Go.Proofs.YtfmcdlbbbmeolaaGreatDoor.Bld Go.Proofs.YtfmcdlbbbmeolaaGreatDoor.Ext
set_option maxRecDepth 100000
theorem head_take (t : ByteArray) (i : Nat) : (t.extract 0 i).data.toList = t.data.toList.take i := head_data t i
theorem mid_data (t : ByteArray) (i : Nat) : (t.extract 1 i).data.toList = (t.data.toList.take i).drop 1 := by
  rw [Lib.extract_data]; simp [List.drop_take]
set_option maxHeartbeats 3200000 in
theorem decode_calls (s : ByteArray) (w : World) (hs : s.size ≤ 140737488355328) :
    Calls Tryz.prog 168 #[.string s] w fun e w' => e = .returned (.string ⟨(decL s.data.toList).toArray⟩) ∧ Below w.heap.size w w' := by
  have h0 : Lib.IsBuilderF 108 5 w.heap.size w.heap.size (Lib.byteCells []) (w.alloc (.cells #[.pointer none, .slice none 0 0] 108)) := Lib.IsBuilderF.of (Lib.fresh_isBuilder 108 5 w)
  have b0 : Below w.heap.size w (w.alloc (.cells #[.pointer none, .slice none 0 0] 108)) := (Below.refl _ w).alloc (Nat.le_refl _) _
  have H0 := Aside0.mk h0
  have B0 := Aside0.mk b0
  clear h0 b0
  go_enter Tryz.func168, Tryz.ntmps168
  go_wp2
  go_loopw [0] (fun tv wr => ∃ (t : ByteArray) (acc : List UInt8), tv = .string t ∧ acc.length + t.size ≤ s.size ∧ Lib.IsBuilderF 108 5 w.heap.size w.heap.size (Lib.byteCells acc) wr ∧ Below w.heap.size w wr ∧
      decL s.data.toList = acc ++ decL t.data.toList)
    (fun tv _ => strLen tv)
  case atStart => exact ⟨s, [], rfl, by simp, H0.out, B0.out, rfl⟩
  case round =>
    obtain ⟨t, acc, rfl, hts, hI, hnx, hd⟩ := hrel
    have HD := Aside0.mk hd
    have HI := Aside0.mk hI
    have HX := Aside0.mk hnx
    clear H0 B0 hd hI hnx
    by_cases hz : t.data.toList = []
    · obtain rfl := empty_of hz
      have hfin : decL s.data.toList = acc := by rw [HD.out]; simp [decL_nil]
      have hsz := HX.out.size
      have hstr := Tryz.Builder_String_any_f w.heap.size w.heap.size acc wr HI.out hsz
      rw [← hfin] at hstr
      have HS := Aside0.mk hstr
      clear HD hfin hts hsz hz hstr
      go_wp2_with (go_at_call 68; refine HS.out.mono ?_; rintro e w2 ⟨rfl, _, hb2⟩)
      go_wp2
      go_ret
      exact ⟨rfl, HX.out.trans hb2⟩
    · have hne := nempty_of hz
      have hl := len_size t
      obtain ⟨c0, l0, hcl⟩ : ∃ c l, t.data.toList = c :: l := by
        cases h : t.data.toList with
        | nil => exact absurd h hz
        | cons c l => exact ⟨c, l, rfl⟩
      have hpos : 0 < t.size := by rw [← hl, hcl]; simp
      have hc0 : t[0] = c0 := by
        have : t.data.toList[0]? = some c0 := by rw [hcl]; rfl
        rw [List.getElem?_eq_getElem (by rw [hl]; exact hpos)] at this
        exact Option.some.inj this
      have hrest : (t.extract 1 t.size).data.toList = l0 := by rw [drop_data, hcl]; rfl
      have hrsz : (t.extract 1 t.size).size = t.size - 1 := by simp
      -- a byte that stays
      have hwb := fun W (hI : Lib.IsBuilderF 108 5 w.heap.size w.heap.size (Lib.byteCells acc) W) (hX : Below w.heap.size w W) => writeByte w.heap.size w.heap.size (Lib.byteCells acc) (c0.toNat : Int) W hI (by rw [Lib.byteCells_length]; omega) hX.size
      have HWB := Aside0.mk hwb
      have hstay : refAt t.data.toList = none ∨ c0 ≠ 38 → decL t.data.toList = c0 :: decL (t.extract 1 t.size).data.toList := by
        intro h
        rw [hrest]
        rw [hcl] at h ⊢
        rcases h with h | h
        · exact decL_none c0 l0 h
        · exact decL_plain c0 l0 h
      have HSTAY := Aside0.mk hstay
      have HR := Aside0.mk hrsz
      clear hstay hwb hrsz
      have hci : ((t[0]).toNat : Int) = (c0.toNat : Int) := by rw [hc0]
      have g1 : (1 : Int) ≤ (t.size : Int) := by omega
      by_cases hc : c0 = 38
      · have c1 : ((c0.toNat : Int) == 38) = true := by rw [hc]; rfl
        obtain ⟨e, he⟩ : ∃ e, indexByte (t.data.toList.take 11) 59 = e := ⟨_, rfl⟩
        have hcut : (t.extract 0 (min (t.size : Int) 11).toNat).data.toList = t.data.toList.take 11 := by
          rw [head_take]
          rcases Nat.lt_or_ge t.size 11 with h | h
          · rw [List.take_of_length_le (by omega), List.take_of_length_le (by omega)]
          · rw [show (min (t.size : Int) 11).toNat = 11 from by omega]
        have hix := Tryz.strings_IndexByte (t.extract 0 (min (t.size : Int) 11).toNat) 59 wr
        rw [hcut] at hix
        have hix2 : Calls Tryz.prog 185 #[.string (t.extract 0 (min (t.size : Int) 11).toNat), .int .u8 59] wr fun e' w' => e' = .returned (.int .i64 e) ∧ w' = wr := by rw [← he]; exact hix
        have HIX := Aside0.mk hix2
        have hlt := indexByte_lt (t.data.toList.take 11) 59
        rw [he, List.length_take, hl] at hlt
        clear hix hix2 hcut
        by_cases he0 : 0 < e
        · obtain ⟨n, rfl⟩ : ∃ n : Nat, e = (n : Int) := ⟨e.toNat, by omega⟩
          have d1 : decide ((0 : Int) < (n : Int)) = true := decide_eq_true he0
          have hmt := meant_calls (t.extract 1 n) wr
          have hmid : (t.extract 1 n).data.toList = (t.data.toList.take n).drop 1 := mid_data t n
          have href : refAt t.data.toList = (meantL (t.extract 1 n).data.toList).map fun x => (x, n + 1) := by
            unfold refAt
            rw [he, if_pos he0, hmid]; rfl
          have n1 : n < t.size := by omega
          have n2 : 0 < n := by omega
          have n3 : (1 : Int) ≤ (n : Int) := by omega
          have n4 : (n : Int) ≤ (t.size : Int) := by omega
          have n5 : (n : Int) + 1 ≤ (t.size : Int) := by omega
          cases hm : meantL (t.extract 1 n).data.toList with
          | none =>
            rw [hm] at hmt href
            have hmt2 : Calls Tryz.prog 206 #[.string (t.extract 1 n)] wr fun e w' => e = .returned (.tuple #[.string ⟨#[]⟩, .bool false]) ∧ Below wr.heap.size wr w' := hmt
            have HM := Aside0.mk hmt2
            have hd2 := HSTAY.out (.inl href)
            have HD2 := Aside0.mk hd2
            clear HSTAY hd2 hmt hmt2 href hm hmid he hlt hc hcl hrest hc0 hl he0
            go_wp2_with (first | (go_at_call 185; refine HIX.out.mono ?_; rintro e w1 ⟨rfl, rfl⟩) | (go_at_call 206; refine HM.out.mono ?_; rintro e w1 ⟨rfl, hb1⟩))
            have HX1 := Aside0.mk (HX.out.trans (hb1.mono HX.out.size))
            have HWB2 := Aside0.mk (HWB.out w1 (isF_step HI.out hb1) HX1.out)
            clear HWB hb1
            go_wp2_with (go_at_call 207; refine HWB2.out.mono ?_; rintro e w3 ⟨rfl, hi3, hb3, _⟩)
            have HI3 : Aside0 (Lib.IsBuilderF 108 5 w.heap.size w.heap.size (Lib.byteCells (acc ++ [c0])) w3) := ⟨by
              rw [Lib.byteCells_append]; exact .inr hi3⟩
            have HB3 := Aside0.mk hb3
            clear hi3 hb3
            go_wp2
            go_roundw
            case rel => exact ⟨t.extract 1 t.size, acc ++ [c0], rfl, by rw [HR.out, List.length_append]; simp only [List.length_cons, List.length_nil]; omega, HI3.out, HX1.out.trans HB3.out, by rw [HD.out, HD2.out, List.append_assoc]; rfl⟩
            case measure => simp [strLen]; omega
          | some x =>
            rw [hm] at hmt href
            have hmt2 : Calls Tryz.prog 206 #[.string (t.extract 1 n)] wr fun e w' => e = .returned (.tuple #[.string ⟨x.toArray⟩, .bool true]) ∧ Below wr.heap.size wr w' := hmt
            have HM := Aside0.mk hmt2
            have href2 : refAt (38 :: l0) = some (x, n + 1) := by rw [← hc, ← hcl, href]; rfl
            have hd2 : decL t.data.toList = x ++ decL (t.extract (n + 1) t.size).data.toList := by
              rw [drop_data, hcl, hc, decL_some l0 x n href2]; rfl
            have hxl := (refAt_len href).1
            have HD2 := Aside0.mk hd2
            have HXL : Aside0 (x.length ≤ n + 1) := ⟨hxl⟩
            have hxs : (⟨x.toArray⟩ : ByteArray).size = x.length := by show x.toArray.size = _; simp
            have HXS := Aside0.mk hxs
            have hts2 := hts
            clear HSTAY hd2 hmt hmt2 href href2 hm hmid he hlt hc hcl hrest hc0 hl he0 HWB hxl hxs
            go_wp2_with (first | (go_at_call 185; refine HIX.out.mono ?_; rintro e w1 ⟨rfl, rfl⟩) | (go_at_call 206; refine HM.out.mono ?_; rintro e w1 ⟨rfl, hb1⟩))
            have HX1 := Aside0.mk (HX.out.trans (hb1.mono HX.out.size))
            have HWB2 := Aside0.mk (writeString w.heap.size w.heap.size (Lib.byteCells acc) ⟨x.toArray⟩ w1 (isF_step HI.out hb1) (by rw [Lib.byteCells_length, HXS.out]; have := HXL.out; omega) HX1.out.size)
            clear hb1
            go_wp2_with (go_at_call 66; refine HWB2.out.mono ?_; rintro e w3 ⟨rfl, hi3, hb3, _⟩)
            have HI3 : Aside0 (Lib.IsBuilderF 108 5 w.heap.size w.heap.size (Lib.byteCells (acc ++ x)) w3) := ⟨by
              have := hi3; rw [bytes_str] at this; exact .inr this⟩
            have HB3 := Aside0.mk hb3
            clear hi3 hb3
            go_wp2
            go_roundw
            case rel => exact ⟨t.extract (n + 1) t.size, acc ++ x, rfl, by
              have := HXL.out
              rw [List.length_append, show (t.extract (n + 1) t.size).size = t.size - (n + 1) from by simp]; omega, HI3.out, HX1.out.trans HB3.out, by rw [HD.out, HD2.out, List.append_assoc]⟩
            case measure => simp [strLen]; omega
        · have d1 : decide ((0 : Int) < e) = false := decide_eq_false he0
          have href : refAt t.data.toList = none := by unfold refAt; rw [he, if_neg he0]
          have hd2 := HSTAY.out (.inl href)
          have HD2 := Aside0.mk hd2
          have HWB2 := Aside0.mk (HWB.out wr HI.out HX.out)
          have HX1 := HX
          clear HWB HSTAY hd2 href he hlt hc hcl hrest hc0 hl he0
          go_wp2_with (first | (go_at_call 185; refine HIX.out.mono ?_; rintro e w1 ⟨rfl, rfl⟩) | (go_at_call 207; refine HWB2.out.mono ?_; rintro e w3 ⟨rfl, hi3, hb3, _⟩))
          have HI3 : Aside0 (Lib.IsBuilderF 108 5 w.heap.size w.heap.size (Lib.byteCells (acc ++ [c0])) w3) := ⟨by
            rw [Lib.byteCells_append]; exact .inr hi3⟩
          have HB3 := Aside0.mk hb3
          clear hi3 hb3
          go_wp2
          go_roundw
          case rel => exact ⟨t.extract 1 t.size, acc ++ [c0], rfl, by rw [HR.out, List.length_append]; simp only [List.length_cons, List.length_nil]; omega, HI3.out, HX1.out.trans HB3.out, by rw [HD.out, HD2.out, List.append_assoc]; rfl⟩
          case measure => simp [strLen]; omega
      · have hd2 := HSTAY.out (.inr hc)
        have HD2 := Aside0.mk hd2
        have c1 : ((c0.toNat : Int) == 38) = false := by
          rw [beq_eq_false_iff_ne]; intro e
          apply hc; apply UInt8.toNat_inj.1; show c0.toNat = 38; omega
        have HWB2 := Aside0.mk (HWB.out wr HI.out HX.out)
        clear HWB HSTAY hd2 hc hcl hrest hc0 hl
        go_wp2_with (go_at_call 207; refine HWB2.out.mono ?_; rintro e w3 ⟨rfl, hi3, hb3, _⟩)
        have HI3 : Aside0 (Lib.IsBuilderF 108 5 w.heap.size w.heap.size (Lib.byteCells (acc ++ [c0])) w3) := ⟨by
          rw [Lib.byteCells_append]; exact .inr hi3⟩
        have HB3 := Aside0.mk hb3
        clear hi3 hb3
        go_wp2
        go_roundw
        case rel => exact ⟨t.extract 1 t.size, acc ++ [c0], rfl, by rw [HR.out, List.length_append]; simp only [List.length_cons, List.length_nil]; omega, HI3.out, HX.out.trans HB3.out, by rw [HD.out, HD2.out, List.append_assoc]; rfl⟩
        case measure => simp [strLen]; omega
end Go.Proofs.YtfmcdlbbbmeolaaGreatDoor.Refs
end
section
namespace Go.Proofs.YtfmcdlbbbmeolaaGreatDoor.Tk
open Go.RowKit Go.Proofs.YtfmcdlbbbmeolaaGreatDoorW.PrintWords Go.Proofs.YtfmcdlbbbmeolaaGreatDoorW.PrintLast Go.Proofs.YtfmcdlbbbmeolaaGreatDoorW.PrintMore
attribute [local go_sem ↓] Go.wp_at_zero Go.wp_at_succ
set_option linter.unusedVariables false
set_option linter.unusedSimpArgs false
set_option maxRecDepth 100000
structure St where
  pos : Int
  name : ByteArray
  fin : Bool
  attr : ByteArray
  held : ByteArray
  read : Int
def StAt (w : World) (g : Nat) (s : St) : Prop := w.heap[g]? = some (.cells #[.int .i64 s.pos, .string s.name, .bool s.fin, .string s.attr, .string s.held, .int .i64 s.read] 44 (0, 0))
def RetS (s : St) (w : World) (e : Ending) (w' : World) : Prop := e = .returned (.agg #[.int .i64 s.pos, .string s.name, .bool s.fin, .string s.attr, .string s.held, .int .i64 s.read]) ∧ Below w.heap.size w w'
def atS (x : Int) : St := ⟨x, ⟨#[]⟩, false, ⟨#[]⟩, ⟨#[]⟩, 0⟩
def inS (s : St) (x : Int) : St := ⟨x, s.name, s.fin, ⟨#[]⟩, ⟨#[]⟩, 0⟩
theorem ret_cell {f : Func} {a : Act} {w' : World} {s : St} {base : World} {n : Nat} (hr : f.results = #[.cell n 44]) (hd : a.defers = []) {g : Nat} (ha : a.tmps.getD n undef = .pointer (some ⟨g, 0, none⟩)) (hg : StAt w' g s) (hb : Below base.heap.size base w') : bodyPost Tryz.prog f (RetS s base) Exit.ret a w' :=
  bodyPost_ret (results_cell_row hr a.tmps w' g 44 _ (0, 0) _ ha hg Tryz.underlying44 rfl (by kernel_rfl)) hd ⟨rfl, hb⟩
theorem cells6 {w1 : World} {g : Nat} {v0 v1 v2 v3 v4 v5 : Value} (hg : w1.heap[g]? = some (.cells #[v0, v1, v2, v3, v4, v5] 44 (0, 0))) :
    w1.cell? ⟨g, 0, none⟩ = some v0 ∧ w1.cell? ⟨g, 1, none⟩ = some v1 ∧ w1.cell? ⟨g, 2, none⟩ = some v2 ∧ w1.cell? ⟨g, 3, none⟩ = some v3 ∧ w1.cell? ⟨g, 4, none⟩ = some v4 ∧ w1.cell? ⟨g, 5, none⟩ = some v5 ∧
      w1.frozen? ⟨g, 0, none⟩ = false ∧ w1.frozen? ⟨g, 1, none⟩ = false ∧ w1.frozen? ⟨g, 2, none⟩ = false ∧ w1.frozen? ⟨g, 3, none⟩ = false ∧ w1.frozen? ⟨g, 4, none⟩ = false ∧ w1.frozen? ⟨g, 5, none⟩ = false :=
  ⟨(blk_cell hg 0).trans rfl, (blk_cell hg 1).trans rfl, (blk_cell hg 2).trans rfl, (blk_cell hg 3).trans rfl, (blk_cell hg 4).trans rfl, (blk_cell hg 5).trans rfl, blk_frozen hg 0, blk_frozen hg 1, blk_frozen hg 2, blk_frozen hg 3, blk_frozen hg 4, blk_frozen hg 5⟩
theorem arr6 {cs : Array Value} (hn : cs.size = 6) (v0 v1 v2 v3 v4 v5 : Value) : (((((cs.setIfInBounds 0 v0).setIfInBounds 1 v1).setIfInBounds 2 v2).setIfInBounds 3 v3).setIfInBounds 4 v4).setIfInBounds 5 v5 = #[v0, v1, v2, v3, v4, v5] := by
  rcases cs with ⟨l⟩
  rcases l with _ | ⟨a0, _ | ⟨a1, _ | ⟨a2, _ | ⟨a3, _ | ⟨a4, _ | ⟨a5, _ | ⟨a6, l⟩⟩⟩⟩⟩⟩⟩
  · exact absurd hn (by simp)
  · exact absurd hn (by simp)
  · exact absurd hn (by simp)
  · exact absurd hn (by simp)
  · exact absurd hn (by simp)
  · exact absurd hn (by simp)
  · rfl
  · exact absurd hn (by simp)
theorem set6 {w1 : World} {g : Nat} {cs : Array Value} {s : St} (hg : w1.heap[g]? = some (.cells cs 44 (0, 0))) (hn : cs.size = 6) :
    StAt ((((((w1.setCell ⟨g, 0, none⟩ (.int .i64 s.pos)).setCell ⟨g, 1, none⟩ (.string s.name)).setCell ⟨g, 2, none⟩ (.bool s.fin)).setCell ⟨g, 3, none⟩ (.string s.attr)).setCell ⟨g, 4, none⟩ (.string s.held)).setCell ⟨g, 5, none⟩ (.int .i64 s.read)) g s := by
  have h := blk_set (blk_set (blk_set (blk_set (blk_set (blk_set hg 0 (.int .i64 s.pos)) 1 (.string s.name)) 2 (.bool s.fin)) 3 (.string s.attr)) 4 (.string s.held)) 5 (.int .i64 s.read)
  rw [arr6 hn] at h
  exact h
theorem below6 {base w1 : World} {g : Nat} {s : St} (hb : Below base.heap.size base w1) (hg : base.heap.size ≤ g) :
    Below base.heap.size base ((((((w1.setCell ⟨g, 0, none⟩ (.int .i64 s.pos)).setCell ⟨g, 1, none⟩ (.string s.name)).setCell ⟨g, 2, none⟩ (.bool s.fin)).setCell ⟨g, 3, none⟩ (.string s.attr)).setCell ⟨g, 4, none⟩ (.string s.held)).setCell ⟨g, 5, none⟩ (.int .i64 s.read)) :=
  (((((hb.setCell hg _).setCell hg _).setCell hg _).setCell hg _).setCell hg _).setCell hg _
theorem StAt.below {w w1 : World} {g : Nat} {s : St} (h : StAt w g s) (hb : Below w.heap.size w w1) : StAt w1 g s := blk_below h hb
theorem StAt.alloc {w : World} {g : Nat} {s : St} (h : StAt w g s) (o : Obj) : StAt (w.alloc o) g s := blk_alloc h o
structure Fr (w : World) (gb g : Nat) (s : St) (w' : World) : Prop where
  lo : w.heap.size ≤ gb
  res : w'.heap[gb]? = some (.cells #[.int .i64 0, .string ⟨#[]⟩, .bool false, .string ⟨#[]⟩, .string ⟨#[]⟩, .int .i64 0] 44 (0, 0))
  st : StAt w' g s
  low : Below w.heap.size w w'
section
variable {w W W1 : World} {gb g : Nat} {s : St}
theorem Fr.start (h : StAt w g s) (hg : gb = w.heap.size) (hr : W.heap[gb]? = some (.cells #[.int .i64 0, .string ⟨#[]⟩, .bool false, .string ⟨#[]⟩, .string ⟨#[]⟩, .int .i64 0] 44 (0, 0))) (hb : Below w.heap.size w W) : Fr w gb g s W := ⟨by omega, hr, h.below hb, hb⟩
theorem Fr.step (h : Fr w gb g s W) (hb : Below W.heap.size W W1) : Fr w gb g s W1 := ⟨h.lo, blk_below h.res hb, h.st.below hb, h.low.trans (hb.mono h.low.size)⟩
theorem Fr.alloc (h : Fr w gb g s W) (o : Obj) : Fr w gb g s (W.alloc o) := h.step ((Below.refl _ _).alloc (Nat.le_refl _) o)
theorem Fr.drew (h : Fr w gb g s W) : Fr w gb g s W.drew := ⟨h.lo, h.res, h.st, pw_below_drewN h.low 1⟩
theorem Fr.drewN (h : Fr w gb g s W) (m : Nat) : Fr w gb g s (W.drewN m) := ⟨h.lo, h.res, h.st, pw_below_drewN h.low m⟩
theorem Fr.facts (h : Fr w gb g s W) : W.cell? ⟨g, 0, none⟩ = some (.int .i64 s.pos) ∧ W.cell? ⟨g, 1, none⟩ = some (.string s.name) ∧ W.cell? ⟨g, 2, none⟩ = some (.bool s.fin) ∧ W.cell? ⟨g, 3, none⟩ = some (.string s.attr) ∧ W.cell? ⟨g, 4, none⟩ = some (.string s.held) ∧ W.cell? ⟨g, 5, none⟩ = some (.int .i64 s.read) := by
  have h1 := cells6 h.st
  exact ⟨h1.1, h1.2.1, h1.2.2.1, h1.2.2.2.1, h1.2.2.2.2.1, h1.2.2.2.2.2.1⟩
theorem Fr.rfacts (h : Fr w gb g s W) : (W.cell? ⟨gb, 0, none⟩ = some (.int .i64 0) ∧ W.cell? ⟨gb, 1, none⟩ = some (.string ⟨#[]⟩) ∧ W.cell? ⟨gb, 2, none⟩ = some (.bool false) ∧ W.cell? ⟨gb, 3, none⟩ = some (.string ⟨#[]⟩) ∧ W.cell? ⟨gb, 4, none⟩ = some (.string ⟨#[]⟩) ∧ W.cell? ⟨gb, 5, none⟩ = some (.int .i64 0) ∧ W.frozen? ⟨gb, 0, none⟩ = false ∧ W.frozen? ⟨gb, 1, none⟩ = false ∧ W.frozen? ⟨gb, 2, none⟩ = false ∧ W.frozen? ⟨gb, 3, none⟩ = false ∧ W.frozen? ⟨gb, 4, none⟩ = false ∧ W.frozen? ⟨gb, 5, none⟩ = false) := cells6 h.res
theorem Fr.ret (h : Fr w gb g s W) {s' : St} {f : Func} {a : Act} {n : Nat} (hr : f.results = #[.cell n 44]) (hd : a.defers = []) (ha : a.tmps.getD n undef = .pointer (some ⟨gb, 0, none⟩)) :
    bodyPost Tryz.prog f (RetS s' w) Exit.ret a ((((((W.setCell ⟨gb, 0, none⟩ (.int .i64 s'.pos)).setCell ⟨gb, 1, none⟩ (.string s'.name)).setCell ⟨gb, 2, none⟩ (.bool s'.fin)).setCell ⟨gb, 3, none⟩ (.string s'.attr)).setCell ⟨gb, 4, none⟩ (.string s'.held)).setCell ⟨gb, 5, none⟩ (.int .i64 s'.read)) :=
  ret_cell hr hd ha (set6 h.res rfl) (below6 h.low h.lo)
end
structure FrN (w : World) (gb : Nat) (w' : World) : Prop where
  lo : w.heap.size ≤ gb
  res : w'.heap[gb]? = some (.cells #[.int .i64 0, .string ⟨#[]⟩, .bool false, .string ⟨#[]⟩, .string ⟨#[]⟩, .int .i64 0] 44 (0, 0))
  low : Below w.heap.size w w'
section
variable {w W W1 : World} {gb : Nat}
theorem FrN.start (hg : gb = w.heap.size) (hr : W.heap[gb]? = some (.cells #[.int .i64 0, .string ⟨#[]⟩, .bool false, .string ⟨#[]⟩, .string ⟨#[]⟩, .int .i64 0] 44 (0, 0))) (hb : Below w.heap.size w W) : FrN w gb W := ⟨by omega, hr, hb⟩
theorem FrN.step (h : FrN w gb W) (hb : Below W.heap.size W W1) : FrN w gb W1 := ⟨h.lo, blk_below h.res hb, h.low.trans (hb.mono h.low.size)⟩
theorem FrN.alloc (h : FrN w gb W) (o : Obj) : FrN w gb (W.alloc o) := h.step ((Below.refl _ _).alloc (Nat.le_refl _) o)
theorem FrN.drew (h : FrN w gb W) : FrN w gb W.drew := ⟨h.lo, h.res, pw_below_drewN h.low 1⟩
theorem FrN.drewN (h : FrN w gb W) (m : Nat) : FrN w gb (W.drewN m) := ⟨h.lo, h.res, pw_below_drewN h.low m⟩
theorem FrN.rfacts (h : FrN w gb W) : (W.cell? ⟨gb, 0, none⟩ = some (.int .i64 0) ∧ W.cell? ⟨gb, 1, none⟩ = some (.string ⟨#[]⟩) ∧ W.cell? ⟨gb, 2, none⟩ = some (.bool false) ∧ W.cell? ⟨gb, 3, none⟩ = some (.string ⟨#[]⟩) ∧ W.cell? ⟨gb, 4, none⟩ = some (.string ⟨#[]⟩) ∧ W.cell? ⟨gb, 5, none⟩ = some (.int .i64 0) ∧ W.frozen? ⟨gb, 0, none⟩ = false ∧ W.frozen? ⟨gb, 1, none⟩ = false ∧ W.frozen? ⟨gb, 2, none⟩ = false ∧ W.frozen? ⟨gb, 3, none⟩ = false ∧ W.frozen? ⟨gb, 4, none⟩ = false ∧ W.frozen? ⟨gb, 5, none⟩ = false) := cells6 h.res
theorem FrN.ret (h : FrN w gb W) {s' : St} {f : Func} {a : Act} {n : Nat} (hr : f.results = #[.cell n 44]) (hd : a.defers = []) (ha : a.tmps.getD n undef = .pointer (some ⟨gb, 0, none⟩)) :
    bodyPost Tryz.prog f (RetS s' w) Exit.ret a ((((((W.setCell ⟨gb, 0, none⟩ (.int .i64 s'.pos)).setCell ⟨gb, 1, none⟩ (.string s'.name)).setCell ⟨gb, 2, none⟩ (.bool s'.fin)).setCell ⟨gb, 3, none⟩ (.string s'.attr)).setCell ⟨gb, 4, none⟩ (.string s'.held)).setCell ⟨gb, 5, none⟩ (.int .i64 s'.read)) :=
  ret_cell hr hd ha (set6 h.res rfl) (below6 h.low h.lo)
end
set_option maxHeartbeats 400000 in
theorem at_calls (x : Int) (w : World) : Calls Tryz.prog 151 #[.int .i64 x] w (RetS (atS x) w) := by
  have hu40 := Tryz.underlying44
  go_enter Tryz.func151, Tryz.ntmps151
  go_wp2
  exact ret_cell rfl rfl rfl (heap_alloc_new w _) ((Below.refl _ _).alloc (Nat.le_refl _) _)
set_option maxHeartbeats 400000 in
theorem in_calls (s : St) (x : Int) (g : Nat) (w : World) (h : StAt w g s) : Calls Tryz.prog 159 #[.pointer (some ⟨g, 0, none⟩), .int .i64 x] w (RetS (inS s x) w) := by
  have hu40 := Tryz.underlying44
  have c1 : w.cell? ⟨g, 1, none⟩ = some (.string s.name) := (blk_cell h 1).trans rfl
  have c2 : w.cell? ⟨g, 2, none⟩ = some (.bool s.fin) := (blk_cell h 2).trans rfl
  have := World.new_ne w ⟨g, 1, none⟩ c1
  go_enter Tryz.func159, Tryz.ntmps159
  go_wp2
  go_region_held3 (fun w' => w'.cell? ⟨g, 1, none⟩ = some (.string s.name) ∧ w'.cell? ⟨g, 2, none⟩ = some (.bool s.fin)) (go_keep) (fail)
  go_wp2
  exact ret_cell rfl rfl rfl (heap_alloc_new w _) (pw_below_drewN ((Below.refl _ _).alloc (Nat.le_refl _) _) 1)
end Go.Proofs.YtfmcdlbbbmeolaaGreatDoor.Tk
end
section
namespace Go.Proofs.YtfmcdlbbbmeolaaGreatDoor.XK
open Go.RowKit Go.Proofs.YtfmcdlbbbmeolaaGreatDoorW.PrintWords Go.Proofs.YtfmcdlbbbmeolaaGreatDoorW.PrintLast Go.Proofs.YtfmcdlbbbmeolaaGreatDoorW.PrintMore
attribute [local go_sem] max2_int min2_int max_two min_two max_three min_three max_four min_four   -- for this text's walks alone
set_option linter.unusedVariables false
set_option linter.unusedSimpArgs false
def errW : Option Int → Value
  | none => .nilIface
  | some c => .iface 0 (.int .i64 c)
theorem errW_none : errW none = .nilIface := rfl
theorem errW_some (c : Int) : errW (some c) = .iface 0 (.int .i64 c) := rfl
theorem info5 : (Tryz.prog.info? 5).map (fun i => (i.zero, i.size, i.bytes)) = some (some (.int .u8 0), 1, 1) := by kernel_rfl
theorem info9 : (Tryz.prog.info? 9).map (fun i => (i.zero, i.size, i.bytes)) = some (some (.string ⟨#[]⟩), 1, 16) := by kernel_rfl
-- the values' own types
/-! #### struct type 39 -/
structure S39 where
  f0 : ByteArray
  f1 : ByteArray
def z39 : S39 := ⟨(⟨#[]⟩ : ByteArray), (⟨#[]⟩ : ByteArray)⟩
def k39 : Kd S39 := Kd.iso (Kd.pair Kd.string Kd.string) (fun x : S39 => (x.f0, x.f1))
theorem k39_open {w : World} {x : S39} {cs : List Value} (h : k39.K w x cs) : cs = [.string x.f0, .string x.f1] := by
  obtain ⟨_, _, rfl, rfl, rfl⟩ := h
  exact rfl
theorem k39_openM {w : World} {base : Nat} {ok : Nat → Prop} {x : S39} {cs : List Value} (h : k39.M w base ok x cs) : cs = [.string x.f0, .string x.f1] := by
  obtain ⟨_, _, rfl, rfl, rfl⟩ := h
  exact rfl
theorem k39_mkM (w : World) (base : Nat) (ok : Nat → Prop) (x : S39)  : k39.M w base ok x [.string x.f0, .string x.f1] := ⟨[.string x.f0], [.string x.f1], rfl, rfl, rfl⟩
def rd_T39 (xs : List S39) (i : Int) : S39 := xs.getD i.toNat z39
theorem at_T39 {w : World} {A : Option Addr} {n : Nat} {xs : List S39} (h : Kd.C k39 w A n xs) (i : Int) (h0 : 0 ≤ i) (h1 : i < n) : ∃ ad , A = some ad ∧ w.cell? (ad.add (i.toNat * 2)) = some (.string (rd_T39 xs i).f0) ∧ w.cell? ⟨(ad.add (i.toNat * 2)).block, (ad.add (i.toNat * 2)).off + 1, none⟩ = some (.string (rd_T39 xs i).f1) := by
  obtain ⟨ad, c, e, _, hK, hc0⟩ := Kd.C_get h z39 i h0 h1
  have hc : ∀ j u, c[j]? = some u → w.cell? (ad.add (i.toNat * 2 + j)) = some u := hc0
  obtain rfl := k39_open hK
  exact ⟨ad, e, hc 0 _ rfl, by rw [← add_field _ _ 1 (by omega)]; exact hc 1 _ rfl⟩
/-! #### struct type 41 -/
structure S41 where
  f0 : Int
  f1 : ByteArray
  f2 : ByteArray
  f3 : (List S39)
  f4 : Bool
def z41 : S41 := ⟨(0 : Int), (⟨#[]⟩ : ByteArray), (⟨#[]⟩ : ByteArray), ([] : List S39), false⟩
def k41 : Kd S41 := Kd.iso (Kd.pair (Kd.int .i64) (Kd.pair Kd.string (Kd.pair Kd.string (Kd.pair (Kd.slice 39 k39) Kd.bool)))) (fun x : S41 => (x.f0, x.f1, x.f2, x.f3, x.f4))
theorem k41_open {w : World} {x : S41} {cs : List Value} (h : k41.K w x cs) : ∃ A3 c3, cs = [.int .i64 x.f0, .string x.f1, .string x.f2, .slice A3 x.f3.length c3, .bool x.f4] ∧ x.f3.length ≤ c3 ∧ k39.C w A3 x.f3.length x.f3 := by
  obtain ⟨_, _, rfl, rfl, ⟨_, _, rfl, rfl, ⟨_, _, rfl, rfl, ⟨_, _, rfl, ⟨A3, c3, rfl, l3, g3⟩, rfl⟩⟩⟩⟩ := h
  exact ⟨A3, c3, rfl, l3, g3⟩
theorem k41_mkM (w : World) (base : Nat) (ok : Nat → Prop) (x : S41) {v3 : Value} (g3 : k39.R 39 w base ok v3 x.f3) : k41.M w base ok x [.int .i64 x.f0, .string x.f1, .string x.f2, v3, .bool x.f4] := ⟨[.int .i64 x.f0], [.string x.f1, .string x.f2, v3, .bool x.f4], rfl, rfl, ⟨[.string x.f1], [.string x.f2, v3, .bool x.f4], rfl, rfl, ⟨[.string x.f2], [v3, .bool x.f4], rfl, rfl, ⟨[v3], [.bool x.f4], rfl, ⟨v3, rfl, g3⟩, rfl⟩⟩⟩⟩
def rd_T41 (xs : List S41) (i : Int) : S41 := xs.getD i.toNat z41
theorem at_T41 {w : World} {A : Option Addr} {n : Nat} {xs : List S41} (h : Kd.C k41 w A n xs) (i : Int) (h0 : 0 ≤ i) (h1 : i < n) : ∃ ad A3 c3, A = some ad ∧ w.cell? (ad.add (i.toNat * 5)) = some (.int .i64 (rd_T41 xs i).f0) ∧ w.cell? ⟨(ad.add (i.toNat * 5)).block, (ad.add (i.toNat * 5)).off + 1, none⟩ = some (.string (rd_T41 xs i).f1) ∧ w.cell? ⟨(ad.add (i.toNat * 5)).block, (ad.add (i.toNat * 5)).off + 2, none⟩ = some (.string (rd_T41 xs i).f2) ∧ w.cell? ⟨(ad.add (i.toNat * 5)).block, (ad.add (i.toNat * 5)).off + 3, none⟩ = some (.slice A3 (rd_T41 xs i).f3.length c3) ∧ w.cell? ⟨(ad.add (i.toNat * 5)).block, (ad.add (i.toNat * 5)).off + 4, none⟩ = some (.bool (rd_T41 xs i).f4) ∧ (rd_T41 xs i).f3.length ≤ c3 ∧ k39.C w A3 (rd_T41 xs i).f3.length (rd_T41 xs i).f3 := by
  obtain ⟨ad, c, e, _, hK, hc0⟩ := Kd.C_get h z41 i h0 h1
  have hc : ∀ j u, c[j]? = some u → w.cell? (ad.add (i.toNat * 5 + j)) = some u := hc0
  obtain ⟨A3, c3, rfl, l3, g3⟩ := k41_open hK
  exact ⟨ad, A3, c3, e, hc 0 _ rfl, by rw [← add_field _ _ 1 (by omega)]; exact hc 1 _ rfl, by rw [← add_field _ _ 2 (by omega)]; exact hc 2 _ rfl, by rw [← add_field _ _ 3 (by omega)]; exact hc 3 _ rfl, by rw [← add_field _ _ 4 (by omega)]; exact hc 4 _ rfl, l3, g3⟩
/-! #### struct type 69 -/
structure S69 where
  f0 : Int
  f1 : ByteArray
  f2 : ByteArray
  f3 : (List S39)
  f4 : Int
def z69 : S69 := ⟨(0 : Int), (⟨#[]⟩ : ByteArray), (⟨#[]⟩ : ByteArray), ([] : List S39), (0 : Int)⟩
def k69 : Kd S69 := Kd.iso (Kd.pair (Kd.int .i64) (Kd.pair Kd.string (Kd.pair Kd.string (Kd.pair (Kd.slice 39 k39) (Kd.int .i64))))) (fun x : S69 => (x.f0, x.f1, x.f2, x.f3, x.f4))
theorem k69_open {w : World} {x : S69} {cs : List Value} (h : k69.K w x cs) : ∃ A3 c3, cs = [.int .i64 x.f0, .string x.f1, .string x.f2, .slice A3 x.f3.length c3, .int .i64 x.f4] ∧ x.f3.length ≤ c3 ∧ k39.C w A3 x.f3.length x.f3 := by
  obtain ⟨_, _, rfl, rfl, ⟨_, _, rfl, rfl, ⟨_, _, rfl, rfl, ⟨_, _, rfl, ⟨A3, c3, rfl, l3, g3⟩, rfl⟩⟩⟩⟩ := h
  exact ⟨A3, c3, rfl, l3, g3⟩
theorem k69_openM {w : World} {base : Nat} {ok : Nat → Prop} {x : S69} {cs : List Value} (h : k69.M w base ok x cs) : ∃ v3, cs = [.int .i64 x.f0, .string x.f1, .string x.f2, v3, .int .i64 x.f4] ∧ k39.R 39 w base ok v3 x.f3 := by
  obtain ⟨_, _, rfl, rfl, ⟨_, _, rfl, rfl, ⟨_, _, rfl, rfl, ⟨_, _, rfl, ⟨v3, rfl, g3⟩, rfl⟩⟩⟩⟩ := h
  exact ⟨v3, rfl, g3⟩
theorem k69_mkM (w : World) (base : Nat) (ok : Nat → Prop) (x : S69) {v3 : Value} (g3 : k39.R 39 w base ok v3 x.f3) : k69.M w base ok x [.int .i64 x.f0, .string x.f1, .string x.f2, v3, .int .i64 x.f4] := ⟨[.int .i64 x.f0], [.string x.f1, .string x.f2, v3, .int .i64 x.f4], rfl, rfl, ⟨[.string x.f1], [.string x.f2, v3, .int .i64 x.f4], rfl, rfl, ⟨[.string x.f2], [v3, .int .i64 x.f4], rfl, rfl, ⟨[v3], [.int .i64 x.f4], rfl, ⟨v3, rfl, g3⟩, rfl⟩⟩⟩⟩
def rd_T69 (xs : List S69) (i : Int) : S69 := xs.getD i.toNat z69
theorem at_T69 {w : World} {A : Option Addr} {n : Nat} {xs : List S69} (h : Kd.C k69 w A n xs) (i : Int) (h0 : 0 ≤ i) (h1 : i < n) : ∃ ad A3 c3, A = some ad ∧ w.cell? (ad.add (i.toNat * 5)) = some (.int .i64 (rd_T69 xs i).f0) ∧ w.cell? ⟨(ad.add (i.toNat * 5)).block, (ad.add (i.toNat * 5)).off + 1, none⟩ = some (.string (rd_T69 xs i).f1) ∧ w.cell? ⟨(ad.add (i.toNat * 5)).block, (ad.add (i.toNat * 5)).off + 2, none⟩ = some (.string (rd_T69 xs i).f2) ∧ w.cell? ⟨(ad.add (i.toNat * 5)).block, (ad.add (i.toNat * 5)).off + 3, none⟩ = some (.slice A3 (rd_T69 xs i).f3.length c3) ∧ w.cell? ⟨(ad.add (i.toNat * 5)).block, (ad.add (i.toNat * 5)).off + 4, none⟩ = some (.int .i64 (rd_T69 xs i).f4) ∧ (rd_T69 xs i).f3.length ≤ c3 ∧ k39.C w A3 (rd_T69 xs i).f3.length (rd_T69 xs i).f3 := by
  obtain ⟨ad, c, e, _, hK, hc0⟩ := Kd.C_get h z69 i h0 h1
  have hc : ∀ j u, c[j]? = some u → w.cell? (ad.add (i.toNat * 5 + j)) = some u := hc0
  obtain ⟨A3, c3, rfl, l3, g3⟩ := k69_open hK
  exact ⟨ad, A3, c3, e, hc 0 _ rfl, by rw [← add_field _ _ 1 (by omega)]; exact hc 1 _ rfl, by rw [← add_field _ _ 2 (by omega)]; exact hc 2 _ rfl, by rw [← add_field _ _ 3 (by omega)]; exact hc 3 _ rfl, by rw [← add_field _ _ 4 (by omega)]; exact hc 4 _ rfl, l3, g3⟩
theorem eqA39 (d : Nat) (w : World) (x0 y0 : ByteArray) (x1 y1 : ByteArray) :
    (Op.equalIn (d + 2) 39 (.agg #[.string x0, .string x1]) (.agg #[.string y0, .string y1])).run Tryz.prog w = .ok (x0.toList == y0.toList && (x1.toList == y1.toList)) w := by
  refine eqA_of Tryz.underlying39 (by kernel_rfl) ?_
  refine eqf_cons (by rfl) (by go_simp; rfl) (by go_simp; rfl) (by go_simp) ?_
  exact eqf_last (by rfl) (by go_simp; rfl) (by go_simp; rfl) (by go_simp)
end Go.Proofs.YtfmcdlbbbmeolaaGreatDoor.XK
end
section
namespace Go.Proofs.YtfmcdlbbbmeolaaGreatDoor.XK
open Go.RowKit Go.Proofs.YtfmcdlbbbmeolaaGreatDoorW.PrintWords Go.Proofs.YtfmcdlbbbmeolaaGreatDoorW.PrintLast Go.Proofs.YtfmcdlbbbmeolaaGreatDoorW.PrintMore
attribute [local go_sem] max2_int min2_int max_two min_two max_three min_three max_four min_four   -- for this text's walks alone
set_option linter.unusedVariables false
set_option linter.unusedSimpArgs false
attribute [local go_sem high] eqA39
-- NOT PRINTED: function 179 (abi_NoEscape)
-- NOT PRINTED: function 128 (strings_Builder_copyCheck)
-- NOT PRINTED: function 66 (strings_Builder_WriteString)
-- NOT PRINTED: function 68 (strings_Builder_String)
-- NOT PRINTED: function 241 (bytealg_IndexByteString)
-- NOT PRINTED: function 218 (stringslite_IndexByte)
-- NOT PRINTED: function 242 (bytealg_IndexString)
-- NOT PRINTED: function 243 (bytealg_Cutover)
-- NOT PRINTED: function 256 (bytealg_hashStr_string)
-- NOT PRINTED: function 244 (bytealg_IndexRabinKarp_string)
-- NOT PRINTED: function 221 (stringslite_Index)
-- NOT PRINTED: function 189 (strings_Index)
-- NOT PRINTED: function 219 (utf8_RuneCountInString)
-- NOT PRINTED: function 220 (bytealg_CountString)
-- NOT PRINTED: function 188 (strings_Count)
-- NOT PRINTED: function 245 (bytealg_MakeNoZero)
-- NOT PRINTED: function 228 (strings_Builder_grow)
-- NOT PRINTED: function 202 (strings_Builder_Grow)
-- NOT PRINTED: function 229 (utf8_decodeRuneInStringSlow)
-- NOT PRINTED: function 203 (utf8_DecodeRuneInString)
-- NOT PRINTED: function 150 (strings_Replace)
-- NOT PRINTED: function 84 (strings_ReplaceAll)
-- NOT PRINTED: function 45 (utf_Lines)
-- NOT PRINTED: function 46 (tok_Start)
-- NOT PRINTED: function 151 (tok_at)
-- NOT PRINTED: function 85 (tok_data)
-- NOT PRINTED: function 183 (utf_LowerByte)
-- NOT PRINTED: function 132 (utf_Letter)
-- NOT PRINTED: function 152 (tok_more)
-- NOT PRINTED: function 86 (tok_tagOpen)
-- NOT PRINTED: function 87 (tok_endOpen)
-- NOT PRINTED: function 156 (tok_blank)
/-! ### elem_Kind: function 167 -/
mutual
def elem_Kind.j0 : Nat → ByteArray → Bool → Option (Int)
 | 0, _, _ => none
 | k + 1, x3, x4 => if x4 = true then (some 1) else (if x3.toList = ([116, 105, 116, 108, 101] : List UInt8) then (elem_Kind.j1 k x3 (x3.toList == ([116, 105, 116, 108, 101] : List UInt8))) else (elem_Kind.j1 k x3 (x3.toList == ([116, 101, 120, 116, 97, 114, 101, 97] : List UInt8))))
def elem_Kind.j1 : Nat → ByteArray → Bool → Option (Int)
 | 0, _, _ => none
 | k + 1, x3, x11 => if x11 = true then (some 2) else (if x3.toList = ([115, 99, 114, 105, 112, 116] : List UInt8) then (some 3) else (if x3.toList = ([115, 116, 121, 108, 101] : List UInt8) then (some 4) else (some 0)))
end
def elem_Kind.f (k : Nat) (a0 : ByteArray) : Option (Int) := if a0.toList = ([98, 114] : List UInt8) then (elem_Kind.j0 k a0 (a0.toList == ([98, 114] : List UInt8))) else (if a0.toList = ([105, 109, 103] : List UInt8) then (elem_Kind.j0 k a0 (a0.toList == ([105, 109, 103] : List UInt8))) else (if a0.toList = ([105, 110, 112, 117, 116] : List UInt8) then (elem_Kind.j0 k a0 (a0.toList == ([105, 110, 112, 117, 116] : List UInt8))) else (if a0.toList = ([104, 114] : List UInt8) then (elem_Kind.j0 k a0 (a0.toList == ([104, 114] : List UInt8))) else (if a0.toList = ([109, 101, 116, 97] : List UInt8) then (elem_Kind.j0 k a0 (a0.toList == ([109, 101, 116, 97] : List UInt8))) else (elem_Kind.j0 k a0 (a0.toList == ([108, 105, 110, 107] : List UInt8)))))))
theorem elem_Kind.mono_l : ∀ k, (∀ y0 y1, LeO (elem_Kind.j0 k y0 y1) (elem_Kind.j0 (k + 1) y0 y1)) ∧ (∀ y0 y1, LeO (elem_Kind.j1 k y0 y1) (elem_Kind.j1 (k + 1) y0 y1))
 | 0 => ⟨fun _ _ r h => by simp [elem_Kind.j0] at h, fun _ _ r h => by simp [elem_Kind.j1] at h⟩
 | k + 1 => by
  obtain ⟨ih0, ih1⟩ := elem_Kind.mono_l k
  refine ⟨?_, ?_⟩
  ·intro y0 y1
   unfold elem_Kind.j0
   repeat' first
   | (with_reducible exact ih0 _ _)
   | (with_reducible exact ih1 _ _)
   | (with_reducible exact LeO.refl _)
   | (with_reducible exact LeO.none _)
   | (with_reducible refine LeO.ite ?_ ?_)
   | (with_reducible refine LeO.bind ?_ (fun _ => ?_))
   | exact ih0 _ _
   | exact ih1 _ _
   | exact LeO.none _
   | refine LeO.ite ?_ ?_
   | refine LeO.bind ?_ (fun _ => ?_)
  ·intro y0 y1
   unfold elem_Kind.j1
   repeat' first
   | (with_reducible exact ih0 _ _)
   | (with_reducible exact ih1 _ _)
   | (with_reducible exact LeO.refl _)
   | (with_reducible exact LeO.none _)
   | (with_reducible refine LeO.ite ?_ ?_)
   | (with_reducible refine LeO.bind ?_ (fun _ => ?_))
   | exact ih0 _ _
   | exact ih1 _ _
   | exact LeO.none _
   | refine LeO.ite ?_ ?_
   | refine LeO.bind ?_ (fun _ => ?_)
theorem elem_Kind.mono : ∀ a0 k, LeO (elem_Kind.f k a0) (elem_Kind.f (k + 1) a0) := by
 intro a0 k
 obtain ⟨ih0, ih1⟩ := elem_Kind.mono_l k
 unfold elem_Kind.f
 repeat' first
   | (with_reducible exact ih0 _ _)
   | (with_reducible exact ih1 _ _)
   | (with_reducible exact LeO.refl _)
   | (with_reducible exact LeO.none _)
   | (with_reducible refine LeO.ite ?_ ?_)
   | (with_reducible refine LeO.bind ?_ (fun _ => ?_))
   | exact ih0 _ _
   | exact ih1 _ _
   | exact LeO.none _
   | refine LeO.ite ?_ ?_
   | refine LeO.bind ?_ (fun _ => ?_)
set_option maxHeartbeats 8000000 in
set_option maxRecDepth 100000 in
theorem elem_Kind.calls (k : Nat) (a0 : ByteArray) (r : Int) (w : World) (h : elem_Kind.f k a0 = some r) :
  Calls Tryz.prog 167 #[.string a0] w fun e w' => e = .returned (.int .i64 r) ∧ Drawn0 w w' := by
 have H : (if a0.toList = ([98, 114] : List UInt8) then (elem_Kind.j0 k a0 (a0.toList == ([98, 114] : List UInt8))) else (if a0.toList = ([105, 109, 103] : List UInt8) then (elem_Kind.j0 k a0 (a0.toList == ([105, 109, 103] : List UInt8))) else (if a0.toList = ([105, 110, 112, 117, 116] : List UInt8) then (elem_Kind.j0 k a0 (a0.toList == ([105, 110, 112, 117, 116] : List UInt8))) else (if a0.toList = ([104, 114] : List UInt8) then (elem_Kind.j0 k a0 (a0.toList == ([104, 114] : List UInt8))) else (if a0.toList = ([109, 101, 116, 97] : List UInt8) then (elem_Kind.j0 k a0 (a0.toList == ([109, 101, 116, 97] : List UInt8))) else (elem_Kind.j0 k a0 (a0.toList == ([108, 105, 110, 107] : List UInt8)))))))) = some r := h
 clear h
 have HC2 := Aside0.mk H
 clear H
 go_enter Tryz.func167, Tryz.ntmps167
 go_upto_if 4 with (fail)
 go_cut [4] (fun v4 wc => ∃ (kq : Nat) (x4_1 : Bool), v4 = .bool x4_1 ∧ Aside0 (elem_Kind.j0 kq a0 x4_1 = some r) ∧ Aside0 (kq ≤ k) ∧ Drawn0 w wc)
 case first =>
  have H := HC2.out
  clear HC2
  by_cases c3 : a0.toList = ([98, 114] : List UInt8)
  ·rw [if_pos c3] at H
   have c3b0 : (a0.toList == ([98, 114] : List UInt8)) = true := beq_iff_eq.mpr c3
   have c3b1 : (a0.toList != ([98, 114] : List UInt8)) = false := bne_eq_false_iff_eq.mpr c3
   clear c3
   (first | rw [c3b0] | (simp only [i64_w, i32_w]; rw [c3b0]) | skip)
   have H' := Aside0.mk H
   clear H
   go_wp2
   go_meet
   case rel => exact ⟨_, ((a0.toList == ([98, 114] : List UInt8))), (by first | rfl | (simp; done) | (simp [*]; done)), H', ⟨by first | omega | exact Nat.le_refl _⟩, by repeat (first | exact Drawn0.refl _ | apply Drawn0.step)⟩
  ·rw [if_neg c3] at H
   have c3b0 : (a0.toList == ([98, 114] : List UInt8)) = false := beq_eq_false_iff_ne.mpr c3
   have c3b1 : (a0.toList != ([98, 114] : List UInt8)) = true := bne_iff_ne.mpr c3
   (first | rw [c3b0] | (simp only [i64_w, i32_w]; rw [c3b0]) | skip)
   by_cases c4 : a0.toList = ([105, 109, 103] : List UInt8)
   ·rw [if_pos c4] at H
    have c4b0 : (a0.toList == ([105, 109, 103] : List UInt8)) = true := beq_iff_eq.mpr c4
    have c4b1 : (a0.toList != ([105, 109, 103] : List UInt8)) = false := bne_eq_false_iff_eq.mpr c4
    clear c4
    have H' := Aside0.mk H
    clear H
    go_wp2
    go_meet
    case rel => exact ⟨_, ((a0.toList == ([105, 109, 103] : List UInt8))), (by first | rfl | (simp; done) | (simp [*]; done)), H', ⟨by first | omega | exact Nat.le_refl _⟩, by repeat (first | exact Drawn0.refl _ | apply Drawn0.step)⟩
   ·rw [if_neg c4] at H
    have c4b0 : (a0.toList == ([105, 109, 103] : List UInt8)) = false := beq_eq_false_iff_ne.mpr c4
    have c4b1 : (a0.toList != ([105, 109, 103] : List UInt8)) = true := bne_iff_ne.mpr c4
    by_cases c5 : a0.toList = ([105, 110, 112, 117, 116] : List UInt8)
    ·rw [if_pos c5] at H
     have c5b0 : (a0.toList == ([105, 110, 112, 117, 116] : List UInt8)) = true := beq_iff_eq.mpr c5
     have c5b1 : (a0.toList != ([105, 110, 112, 117, 116] : List UInt8)) = false := bne_eq_false_iff_eq.mpr c5
     clear c5
     have H' := Aside0.mk H
     clear H
     go_wp2
     go_meet
     case rel => exact ⟨_, ((a0.toList == ([105, 110, 112, 117, 116] : List UInt8))), (by first | rfl | (simp; done) | (simp [*]; done)), H', ⟨by first | omega | exact Nat.le_refl _⟩, by repeat (first | exact Drawn0.refl _ | apply Drawn0.step)⟩
    ·rw [if_neg c5] at H
     have c5b0 : (a0.toList == ([105, 110, 112, 117, 116] : List UInt8)) = false := beq_eq_false_iff_ne.mpr c5
     have c5b1 : (a0.toList != ([105, 110, 112, 117, 116] : List UInt8)) = true := bne_iff_ne.mpr c5
     by_cases c6 : a0.toList = ([104, 114] : List UInt8)
     ·rw [if_pos c6] at H
      have c6b0 : (a0.toList == ([104, 114] : List UInt8)) = true := beq_iff_eq.mpr c6
      have c6b1 : (a0.toList != ([104, 114] : List UInt8)) = false := bne_eq_false_iff_eq.mpr c6
      clear c6
      have H' := Aside0.mk H
      clear H
      go_wp2
      go_meet
      case rel => exact ⟨_, ((a0.toList == ([104, 114] : List UInt8))), (by first | rfl | (simp; done) | (simp [*]; done)), H', ⟨by first | omega | exact Nat.le_refl _⟩, by repeat (first | exact Drawn0.refl _ | apply Drawn0.step)⟩
     ·rw [if_neg c6] at H
      have c6b0 : (a0.toList == ([104, 114] : List UInt8)) = false := beq_eq_false_iff_ne.mpr c6
      have c6b1 : (a0.toList != ([104, 114] : List UInt8)) = true := bne_iff_ne.mpr c6
      by_cases c7 : a0.toList = ([109, 101, 116, 97] : List UInt8)
      ·rw [if_pos c7] at H
       have c7b0 : (a0.toList == ([109, 101, 116, 97] : List UInt8)) = true := beq_iff_eq.mpr c7
       have c7b1 : (a0.toList != ([109, 101, 116, 97] : List UInt8)) = false := bne_eq_false_iff_eq.mpr c7
       clear c7
       have H' := Aside0.mk H
       clear H
       go_wp2
       go_meet
       case rel => exact ⟨_, ((a0.toList == ([109, 101, 116, 97] : List UInt8))), (by first | rfl | (simp; done) | (simp [*]; done)), H', ⟨by first | omega | exact Nat.le_refl _⟩, by repeat (first | exact Drawn0.refl _ | apply Drawn0.step)⟩
      ·rw [if_neg c7] at H
       have c7b0 : (a0.toList == ([109, 101, 116, 97] : List UInt8)) = false := beq_eq_false_iff_ne.mpr c7
       have c7b1 : (a0.toList != ([109, 101, 116, 97] : List UInt8)) = true := bne_iff_ne.mpr c7
       have H' := Aside0.mk H
       clear H
       go_wp2
       go_meet
       case rel => exact ⟨_, ((a0.toList == ([108, 105, 110, 107] : List UInt8))), (by first | rfl | (simp; done) | (simp [*]; done)), H', ⟨by first | omega | exact Nat.le_refl _⟩, by repeat (first | exact Drawn0.refl _ | apply Drawn0.step)⟩
 case rest =>
  clear HC2
  try clear c1
  try clear p2
  try clear c3
  try clear c3b0
  try clear c3b1
  try clear c4
  try clear c4b0
  try clear c4b1
  try clear c5
  try clear c5b0
  try clear c5b1
  try clear c6
  try clear c6b0
  try clear c6b1
  try clear c7
  try clear c7b0
  try clear c7b1
  obtain ⟨kq, x4_1, rfl, HA, HJ1, ⟨mc1, rfl⟩⟩ := hcut
  cases kq with
  | zero => exact absurd HA.out (by simp [elem_Kind.j0])
  | succ kj1 =>
   have H := HA.out
   clear HA
   simp only [elem_Kind.j0] at H
   by_cases c8 : x4_1 = true
   ·subst c8
    have H1 : (some 1) = some r := by rw [if_pos rfl] at H; exact H
    clear H
    have H := H1
    clear H1
    obtain rfl := Option.some.inj H
    go_wp2
    go_ret
    exact ⟨by first | rfl | (simp; done) | (simp [*]; done), by repeat (first | exact Drawn0.refl _ | apply Drawn0.step)⟩
   ·replace c8 := Bool.eq_false_iff.mpr c8
    subst c8
    have H1 : (if a0.toList = ([116, 105, 116, 108, 101] : List UInt8) then (elem_Kind.j1 kj1 a0 (a0.toList == ([116, 105, 116, 108, 101] : List UInt8))) else (elem_Kind.j1 kj1 a0 (a0.toList == ([116, 101, 120, 116, 97, 114, 101, 97] : List UInt8)))) = some r := by rw [if_neg (show ¬ (false = true) by decide)] at H; exact H
    clear H
    have H := H1
    clear H1
    have HC9 := Aside0.mk H
    clear H
    go_upto_if 11 with (fail)
    go_cut [11] (fun v11 wc => ∃ (kq : Nat) (x11_8 : Bool), v11 = .bool x11_8 ∧ Aside0 (elem_Kind.j1 kq a0 x11_8 = some r) ∧ Aside0 (kq ≤ kj1) ∧ Drawn0 w wc)
    case first =>
     have H := HC9.out
     clear HC9
     by_cases c10 : a0.toList = ([116, 105, 116, 108, 101] : List UInt8)
     ·rw [if_pos c10] at H
      have c10b0 : (a0.toList == ([116, 105, 116, 108, 101] : List UInt8)) = true := beq_iff_eq.mpr c10
      have c10b1 : (a0.toList != ([116, 105, 116, 108, 101] : List UInt8)) = false := bne_eq_false_iff_eq.mpr c10
      clear c10
      (first | rw [c10b0] | (simp only [i64_w, i32_w]; rw [c10b0]) | skip)
      have H' := Aside0.mk H
      clear H
      go_wp2
      go_meet
      case rel => exact ⟨_, ((a0.toList == ([116, 105, 116, 108, 101] : List UInt8))), (by first | rfl | (simp; done) | (simp [*]; done)), H', ⟨by have := HJ1.out; first | omega | exact Nat.le_refl _⟩, by repeat (first | exact Drawn0.refl _ | apply Drawn0.step)⟩
     ·rw [if_neg c10] at H
      have c10b0 : (a0.toList == ([116, 105, 116, 108, 101] : List UInt8)) = false := beq_eq_false_iff_ne.mpr c10
      have c10b1 : (a0.toList != ([116, 105, 116, 108, 101] : List UInt8)) = true := bne_iff_ne.mpr c10
      (first | rw [c10b0] | (simp only [i64_w, i32_w]; rw [c10b0]) | skip)
      have H' := Aside0.mk H
      clear H
      go_wp2
      go_meet
      case rel => exact ⟨_, ((a0.toList == ([116, 101, 120, 116, 97, 114, 101, 97] : List UInt8))), (by first | rfl | (simp; done) | (simp [*]; done)), H', ⟨by have := HJ1.out; first | omega | exact Nat.le_refl _⟩, by repeat (first | exact Drawn0.refl _ | apply Drawn0.step)⟩
    case rest =>
     clear HC9
     try clear c1
     try clear p2
     try clear c3
     try clear c3b0
     try clear c3b1
     try clear c4
     try clear c4b0
     try clear c4b1
     try clear c5
     try clear c5b0
     try clear c5b1
     try clear c6
     try clear c6b0
     try clear c6b1
     try clear c7
     try clear c7b0
     try clear c7b1
     try clear c8
     try clear c10
     try clear c10b0
     try clear c10b1
     try clear p2
     obtain ⟨kq, x11_8, rfl, HA, HJ8, ⟨mc8, rfl⟩⟩ := hcut
     cases kq with
     | zero => exact absurd HA.out (by simp [elem_Kind.j1])
     | succ kj8 =>
      have H := HA.out
      clear HA
      simp only [elem_Kind.j1] at H
      by_cases c11 : x11_8 = true
      ·subst c11
       have H1 : (some 2) = some r := by rw [if_pos rfl] at H; exact H
       clear H
       have H := H1
       clear H1
       obtain rfl := Option.some.inj H
       go_wp2
       go_ret
       exact ⟨by first | rfl | (simp; done) | (simp [*]; done), by repeat (first | exact Drawn0.refl _ | apply Drawn0.step)⟩
      ·replace c11 := Bool.eq_false_iff.mpr c11
       subst c11
       have H1 : (if a0.toList = ([115, 99, 114, 105, 112, 116] : List UInt8) then (some 3) else (if a0.toList = ([115, 116, 121, 108, 101] : List UInt8) then (some 4) else (some 0))) = some r := by rw [if_neg (show ¬ (false = true) by decide)] at H; exact H
       clear H
       have H := H1
       clear H1
       by_cases c12 : a0.toList = ([115, 99, 114, 105, 112, 116] : List UInt8)
       ·rw [if_pos c12] at H
        have c12b0 : (a0.toList == ([115, 99, 114, 105, 112, 116] : List UInt8)) = true := beq_iff_eq.mpr c12
        have c12b1 : (a0.toList != ([115, 99, 114, 105, 112, 116] : List UInt8)) = false := bne_eq_false_iff_eq.mpr c12
        clear c12
        obtain rfl := Option.some.inj H
        go_wp2
        go_ret
        exact ⟨by first | rfl | (simp; done) | (simp [*]; done), by repeat (first | exact Drawn0.refl _ | apply Drawn0.step)⟩
       ·rw [if_neg c12] at H
        have c12b0 : (a0.toList == ([115, 99, 114, 105, 112, 116] : List UInt8)) = false := beq_eq_false_iff_ne.mpr c12
        have c12b1 : (a0.toList != ([115, 99, 114, 105, 112, 116] : List UInt8)) = true := bne_iff_ne.mpr c12
        by_cases c13 : a0.toList = ([115, 116, 121, 108, 101] : List UInt8)
        ·rw [if_pos c13] at H
         have c13b0 : (a0.toList == ([115, 116, 121, 108, 101] : List UInt8)) = true := beq_iff_eq.mpr c13
         have c13b1 : (a0.toList != ([115, 116, 121, 108, 101] : List UInt8)) = false := bne_eq_false_iff_eq.mpr c13
         clear c13
         obtain rfl := Option.some.inj H
         go_wp2
         go_ret
         exact ⟨by first | rfl | (simp; done) | (simp [*]; done), by repeat (first | exact Drawn0.refl _ | apply Drawn0.step)⟩
        ·rw [if_neg c13] at H
         have c13b0 : (a0.toList == ([115, 116, 121, 108, 101] : List UInt8)) = false := beq_eq_false_iff_ne.mpr c13
         have c13b1 : (a0.toList != ([115, 116, 121, 108, 101] : List UInt8)) = true := bne_iff_ne.mpr c13
         obtain rfl := Option.some.inj H
         go_wp2
         go_ret
         exact ⟨by first | rfl | (simp; done) | (simp [*]; done), by repeat (first | exact Drawn0.refl _ | apply Drawn0.step)⟩
-- NOT PRINTED: function 157 (tok_closes)
-- NOT PRINTED: function 159 (tok_in)
-- NOT PRINTED: function 153 (tok_between)
-- NOT PRINTED: function 88 (tok_tagName)
-- NOT PRINTED: function 154 (tok_attr)
-- NOT PRINTED: function 89 (tok_begins)
-- NOT PRINTED: function 155 (tok_names)
-- NOT PRINTED: function 90 (tok_attrName)
-- NOT PRINTED: function 91 (tok_afterName)
-- NOT PRINTED: function 92 (tok_beforeValue)
-- NOT PRINTED: function 158 (tok_quoted)
-- NOT PRINTED: function 93 (tok_double)
-- NOT PRINTED: function 94 (tok_single)
-- NOT PRINTED: function 95 (tok_bare)
-- NOT PRINTED: function 160 (tok_bangs)
-- NOT PRINTED: function 96 (tok_bang)
-- NOT PRINTED: function 97 (tok_bangDash)
-- NOT PRINTED: function 161 (tok_either)
-- NOT PRINTED: function 98 (tok_comment)
-- NOT PRINTED: function 99 (tok_commentDash)
-- NOT PRINTED: function 100 (tok_commentEnd)
-- NOT PRINTED: function 101 (tok_bogus)
-- NOT PRINTED: function 162 (tok_held)
-- NOT PRINTED: function 102 (tok_holds)
-- NOT PRINTED: function 103 (tok_heldLt)
-- NOT PRINTED: function 163 (tok_reads)
-- NOT PRINTED: function 104 (tok_heldSlash)
-- NOT PRINTED: function 105 (tok_heldName)
-- NOT PRINTED: function 47 (tok_Step)
-- NOT PRINTED: function 106 (tok_ends)
-- NOT PRINTED: function 185 (strings_IndexByte)
-- NOT PRINTED: function 186 (stringslite_HasPrefix)
-- NOT PRINTED: function 136 (strings_HasPrefix)
-- NOT PRINTED: function 184 (utf_Digit)
-- NOT PRINTED: function 246 (refs_digit)
-- NOT PRINTED: function 247 (utf8_ValidRune)
-- NOT PRINTED: function 231 (refs_numbered)
-- NOT PRINTED: function 232 (refs_named)
-- NOT PRINTED: function 206 (refs_meant)
-- NOT PRINTED: function 207 (strings_Builder_WriteByte)
-- NOT PRINTED: function 168 (refs_Decode)
-- NOT PRINTED: function 230 (api_Attr_230)
-- NOT PRINTED: function 205 (api_Attr_205)
-- NOT PRINTED: function 164 (tok_reader_kept)
-- NOT PRINTED: function 111 (tok_reader_text)
-- NOT PRINTED: function 165 (tok_reader_told)
-- NOT PRINTED: function 107 (tok_reader_tag)
-- NOT PRINTED: function 108 (tok_remarks)
-- NOT PRINTED: function 109 (tok_reader_comment)
-- NOT PRINTED: function 166 (tok_reader_last)
-- NOT PRINTED: function 110 (tok_reader_reads)
-- NOT PRINTED: function 48 (tok_reader_takes)
-- NOT PRINTED: function 49 (tok_reader_rest)
-- NOT PRINTED: function 18 (tok_Tokens)
-- NOT PRINTED: function 50 (stoleref5_Lines)
-- NOT PRINTED: function 52 (stoleref5_inText)
/-! ### stoleref1_Elem: function 116 -/
-- NOT PRINTED: function 53 (stoleref5_scan_adds)
-- NOT PRINTED: function 149 (stoleref1_Low)
-- NOT PRINTED: function 137 (stoleref1_Letter)
-- NOT PRINTED: function 138 (stoleref1_Digit)
-- NOT PRINTED: function 227 (stoleref1_hex)
-- NOT PRINTED: function 199 (stoleref1_number)
-- NOT PRINTED: function 200 (stoleref1_Rune)
-- NOT PRINTED: function 201 (stoleref1_named)
-- NOT PRINTED: function 145 (stoleref1_reference)
-- NOT PRINTED: function 78 (stoleref1_Decode)
-- NOT PRINTED: function 54 (stoleref5_scan_flush)
-- NOT PRINTED: function 113 (stoleref5_inTag)
-- NOT PRINTED: function 117 (stoleref5_attr)
-- NOT PRINTED: function 118 (stoleref5_tag)
-- NOT PRINTED: function 60 (stoleref5_Clean)
-- NOT PRINTED: function 208 (stoleref5_with)
-- NOT PRINTED: function 169 (stoleref5_open)
-- NOT PRINTED: function 209 (stoleref5_closed)
-- NOT PRINTED: function 210 (stoleref5_Blank)
-- NOT PRINTED: function 170 (stoleref5_names)
-- NOT PRINTED: function 171 (stoleref5_values)
-- NOT PRINTED: function 172 (stoleref5_comments)
-- NOT PRINTED: function 173 (stoleref5_held)
-- NOT PRINTED: function 112 (stoleref5_Step)
-- NOT PRINTED: function 174 (stoleref5_scan_commit)
-- NOT PRINTED: function 114 (stoleref5_scan_emit)
-- NOT PRINTED: function 115 (stoleref5_scan_value)
-- NOT PRINTED: function 51 (stoleref5_scan_byte)
-- NOT PRINTED: function 19 (stoleref5_Tokens)
/-! ### stolelaw0_SameAttrs: function 55 -/
-- NOT PRINTED: function 20 (stolelaw0_SameTokens)
/-! ### stolelaw0_Num: function 21 -/
def stolelaw0_Num.f (a0 : Int) : Option (Int) := some a0
set_option maxHeartbeats 8000000 in
set_option maxRecDepth 100000 in
theorem stolelaw0_Num.calls (a0 : Int) (r : Int) (w : World) (h : stolelaw0_Num.f a0 = some r) :
  Calls Tryz.prog 21 #[.int .i64 a0] w fun e w' => e = .returned (.int .i64 r) ∧ Drawn0 w w' := by
 have H : (some a0) = some r := h
 clear h
 obtain rfl := Option.some.inj H
 go_enter Tryz.func21, Tryz.ntmps21
 go_wp2
 go_ret
 exact ⟨by first | rfl | (simp; done) | (simp [*]; done), by repeat (first | exact Drawn0.refl _ | apply Drawn0.step)⟩
end Go.Proofs.YtfmcdlbbbmeolaaGreatDoor.XK
end
section
namespace Go.Proofs.YtfmcdlbbbmeolaaGreatDoor.XK
open Go.RowKit Go.Proofs.YtfmcdlbbbmeolaaGreatDoorW.PrintWords Go.Proofs.YtfmcdlbbbmeolaaGreatDoorW.PrintLast Go.Proofs.YtfmcdlbbbmeolaaGreatDoorW.PrintMore
attribute [local go_sem] max2_int min2_int max_two min_two max_three min_three max_four min_four   -- for this text's walks alone
set_option linter.unusedVariables false
set_option linter.unusedSimpArgs false
/-! ### stolelaw0_SpoilAttrs: function 56 -/
-- NOT PRINTED: function 22 (stolelaw0_SpoilTokens)
-- NOT PRINTED: function 26 (stolelaw5_at)
-- NOT PRINTED: function 23 (stolelaw5_awake)
-- NOT PRINTED: function 3 (stolelaw5_Tokens)
/-! ### stoleref0_Decimal: function 24 -/
-- NOT PRINTED: function 57 (stoleref18_heldAt)
-- NOT PRINTED: function 58 (stoleref18_script)
-- NOT PRINTED: function 59 (stoleref18_title)
-- NOT PRINTED: function 73 (stoleref1_AttrKind)
-- NOT PRINTED: function 119 (stoleref18_value)
-- NOT PRINTED: function 61 (stoleref18_entered)
-- NOT PRINTED: function 62 (stoleref18_refs)
-- NOT PRINTED: function 25 (stoleref18_CtxMay)
-- NOT PRINTED: function 4 (stolelaw5_TokenTags)
-- NOT PRINTED: function 175 (tree_attrs)
-- NOT PRINTED: function 120 (tree_may)
-- NOT PRINTED: function 176 (tree_builder_inner)
-- NOT PRINTED: function 122 (tree_builder_node)
-- NOT PRINTED: function 121 (tree_builder_text)
-- NOT PRINTED: function 177 (api_Attr_177)
-- NOT PRINTED: function 123 (tree_builder_start)
-- NOT PRINTED: function 124 (tree_builder_end)
-- NOT PRINTED: function 63 (tree_Build)
-- NOT PRINTED: function 27 (page_Parse)
-- NOT PRINTED: function 125 (stoleref5_tokenMay)
-- NOT PRINTED: function 178 (stoleref5_maker_node)
-- NOT PRINTED: function 126 (stoleref5_maker_token)
-- NOT PRINTED: function 64 (stoleref5_Build)
-- NOT PRINTED: function 28 (stoleref5_Parse)
def IsS69 (w0 W : World) (g : Nat) (f0 : Int) (f1 : ByteArray) (f2 : ByteArray) (f3 : List (S39)) (f4 : Int) : Prop := ∃ A3 c3, W.heap[g]? = some (.cells #[.int .i64 f0, .string f1, .string f2, .slice A3 f3.length c3, .int .i64 f4] 69 (0, 0)) ∧ w0.heap.size ≤ g ∧ Kd.C k39 w0 A3 f3.length f3
theorem IsS69.grown {w0 W : World} {g : Nat} {f0 : Int} {f1 : ByteArray} {f2 : ByteArray} {f3 : List (S39)} {f4 : Int} {W1 : World} {row : Option Nat} (h : IsS69 w0 W g f0 f1 f2 f3 f4) (hw : W.grownBy W1 row) (hne : some g ≠ row) : IsS69 w0 W1 g f0 f1 f2 f3 f4 := by
 obtain ⟨A3, c3, hb, hg, hr3⟩ := h
 exact ⟨A3, c3, blk_grown hb hw hne, hg, hr3⟩
theorem IsS69.kept {w0 W : World} {g : Nat} {f0 : Int} {f1 : ByteArray} {f2 : ByteArray} {f3 : List (S39)} {f4 : Int} {W1 : World} {S : Nat → Prop} (h : IsS69 w0 W g f0 f1 f2 f3 f4) (hk : Kept W W1 S) (hne : ¬ S g) : IsS69 w0 W1 g f0 f1 f2 f3 f4 := by
 obtain ⟨A3, c3, hb, hg, hr3⟩ := h
 exact ⟨A3, c3, blk_kept hb hk hne, hg, hr3⟩
theorem IsS69.below {w0 W : World} {g : Nat} {f0 : Int} {f1 : ByteArray} {f2 : ByteArray} {f3 : List (S39)} {f4 : Int} {W1 : World} (h : IsS69 w0 W g f0 f1 f2 f3 f4) (hw : Below W.heap.size W W1) : IsS69 w0 W1 g f0 f1 f2 f3 f4 := h.grown (grown_of_below hw none) (by simp)
theorem IsS69.alloc {w0 W : World} {g : Nat} {f0 : Int} {f1 : ByteArray} {f2 : ByteArray} {f3 : List (S39)} {f4 : Int} (h : IsS69 w0 W g f0 f1 f2 f3 f4) (o : Obj) : IsS69 w0 (W.alloc o) g f0 f1 f2 f3 f4 := h.below (below_alloc (Below.refl _ _) o)
theorem IsS69.drewN {w0 W : World} {g : Nat} {f0 : Int} {f1 : ByteArray} {f2 : ByteArray} {f3 : List (S39)} {f4 : Int} (h : IsS69 w0 W g f0 f1 f2 f3 f4) (m : Nat) : IsS69 w0 (W.drewN m) g f0 f1 f2 f3 f4 := h
theorem IsS69.drew {w0 W : World} {g : Nat} {f0 : Int} {f1 : ByteArray} {f2 : ByteArray} {f3 : List (S39)} {f4 : Int} (h : IsS69 w0 W g f0 f1 f2 f3 f4) : IsS69 w0 W.drew g f0 f1 f2 f3 f4 := h
theorem IsS69.at_ {w0 W : World} {g : Nat} {f0 : Int} {f1 : ByteArray} {f2 : ByteArray} {f3 : List (S39)} {f4 : Int} {w' : World} {m : Nat} (hq : W.drewN m = w') (h : IsS69 w0 W g f0 f1 f2 f3 f4) : IsS69 w0 w' g f0 f1 f2 f3 f4 := by subst hq; exact IsS69.drewN h m
theorem IsS69.apart {w0 W : World} {g : Nat} {f0 : Int} {f1 : ByteArray} {f2 : ByteArray} {f3 : List (S39)} {f4 : Int} {α : Type} {d : Kd α} {e : Nat} {base : Nat} {ok : Nat → Prop} {v : Value} {xs : List α} (h : IsS69 w0 W g f0 f1 f2 f3 f4) (ho : d.R e W base ok v xs) (ht : ∀ q, q ∈ e :: d.E → q ≠ 69) : d.R e W base (fun k => ok k ∧ k ≠ g) v xs := by
 obtain ⟨A3, c3, hb, hg, hr3⟩ := h
 exact Kd.R_types ho hb ht
theorem IsS69.own_ne {w0 W : World} {g : Nat} {f0 : Int} {f1 : ByteArray} {f2 : ByteArray} {f3 : List (S39)} {f4 : Int} {α : Type} {d : Kd α} {e : Nat} {base : Nat} {ok : Nat → Prop} {v : Value} {xs : List α} (h : IsS69 w0 W g f0 f1 f2 f3 f4) (ho : d.R e W base ok v xs) (ht : e ≠ 69) : some g ≠ v.ownBlock := by
 obtain ⟨A3, c3, hb, hg, hr3⟩ := h
 exact Kd.R_ne ho hb ht
theorem IsS69.lt {w0 W : World} {g : Nat} {f0 : Int} {f1 : ByteArray} {f2 : ByteArray} {f3 : List (S39)} {f4 : Int} (h : IsS69 w0 W g f0 f1 f2 f3 f4) : g < W.heap.size := by
 obtain ⟨A3, c3, hb, hg, hr3⟩ := h
 exact blk_lt hb
theorem IsS69.far {w0 W : World} {g : Nat} {f0 : Int} {f1 : ByteArray} {f2 : ByteArray} {f3 : List (S39)} {f4 : Int} {p : Addr} (h : IsS69 w0 W g f0 f1 f2 f3 f4) (hne : g ≠ p.block) (u : Value) : IsS69 w0 (W.setCell p u) g f0 f1 f2 f3 f4 := by
 obtain ⟨A3, c3, hb, hg, hr3⟩ := h
 exact ⟨A3, c3, blk_far hb hne u, hg, hr3⟩
theorem IsS69.new (w0 W : World) (A3 : Option Addr) (c3 : Nat) (f0 : Int) (f1 : ByteArray) (f2 : ByteArray) (f3 : List (S39)) (f4 : Int) (hB : Below w0.heap.size w0 W) (hr3 : Kd.C k39 w0 A3 f3.length f3) : IsS69 w0 (W.alloc (.cells #[.int .i64 f0, .string f1, .string f2, .slice A3 f3.length c3, .int .i64 f4] 69)) W.heap.size f0 f1 f2 f3 f4 := ⟨A3, c3, by simpa using heap_alloc_new W _, hB.size, hr3⟩
/-! ### page_plain: function 127 -/
-- NOT PRINTED: function 65 (page_may)
-- NOT PRINTED: function 212 (strconv_small)
-- NOT PRINTED: function 233 (strconv_log10Pow2)
-- NOT PRINTED: function 234 (bits_Len64)
-- NOT PRINTED: function 235 (strconv_bool2_int)
-- NOT PRINTED: function 213 (strconv_numDigits)
-- NOT PRINTED: function 214 (strconv_formatBase10)
-- NOT PRINTED: function 236 (strconv_isPowerOfTwo)
-- NOT PRINTED: function 248 (bits_TrailingZeros32)
-- NOT PRINTED: function 249 (bits_TrailingZeros64)
-- NOT PRINTED: function 237 (bits_TrailingZeros)
-- NOT PRINTED: function 215 (strconv_formatBits)
-- NOT PRINTED: function 180 (strconv_FormatInt)
-- NOT PRINTED: function 129 (strconv_Itoa_129)
-- NOT PRINTED: function 67 (strconv_Itoa_67)
-- NOT PRINTED: function 29 (page_Skeleton)
end Go.Proofs.YtfmcdlbbbmeolaaGreatDoor.XK
end
section
namespace Go.Proofs.YtfmcdlbbbmeolaaGreatDoor.XK
end Go.Proofs.YtfmcdlbbbmeolaaGreatDoor.XK
end
