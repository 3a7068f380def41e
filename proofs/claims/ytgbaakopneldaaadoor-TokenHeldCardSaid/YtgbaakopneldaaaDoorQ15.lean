/- Laid by xprint.py, a program of this session over the kit's print: for each Go function one Lean function of the same answers, and the walk that shows it. -/
import Derived.Test.YtgbaakopneldaaaDoorQ0
import Derived.Test.YtgbaakopneldaaaDoorQ13
import Derived.Test.YtgbaakopneldaaaDoorQ14
section
namespace Go.Proofs.YtgbaakopneldaaaDoor.XL
open Go.RowKit Go.Proofs.YtgbaakopneldaaaDoor.ExtM Go.Proofs.YtgbaakopneldaaaDoor.XK Go.Proofs.YtgbaakopneldaaaDoorW.PrintWords Go.Proofs.YtgbaakopneldaaaDoorW.PrintLast Go.Proofs.YtgbaakopneldaaaDoorW.PrintMore
attribute [local go_sem] max2_int min2_int max_two min_two max_three min_three max_four min_four   -- for this text's walks alone
set_option linter.unusedVariables false
set_option linter.unusedSimpArgs false
attribute [local go_sem high] eqA40
-- NOT PRINTED: function 51 (tok_at)
-- NOT PRINTED: function 23 (tok_data)
-- NOT PRINTED: function 71 (utf_LowerByte)
-- NOT PRINTED: function 52 (utf_Letter)
-- NOT PRINTED: function 53 (tok_more)
-- NOT PRINTED: function 24 (tok_tagOpen)
-- NOT PRINTED: function 25 (tok_endOpen)
-- NOT PRINTED: function 57 (tok_blank)
-- NOT PRINTED: function 69 (elem_Kind)
-- NOT PRINTED: function 58 (tok_closes)
-- NOT PRINTED: function 60 (tok_in)
-- NOT PRINTED: function 54 (tok_between)
-- NOT PRINTED: function 26 (tok_tagName)
-- NOT PRINTED: function 55 (tok_attr)
-- NOT PRINTED: function 27 (tok_begins)
-- NOT PRINTED: function 56 (tok_names)
-- NOT PRINTED: function 28 (tok_attrName)
-- NOT PRINTED: function 29 (tok_afterName)
-- NOT PRINTED: function 30 (tok_beforeValue)
-- NOT PRINTED: function 59 (tok_quoted)
-- NOT PRINTED: function 31 (tok_double)
-- NOT PRINTED: function 32 (tok_single)
-- NOT PRINTED: function 33 (tok_bare)
-- NOT PRINTED: function 61 (tok_bangs)
-- NOT PRINTED: function 34 (tok_bang)
-- NOT PRINTED: function 35 (tok_bangDash)
-- NOT PRINTED: function 62 (tok_either)
-- NOT PRINTED: function 36 (tok_comment)
-- NOT PRINTED: function 37 (tok_commentDash)
-- NOT PRINTED: function 38 (tok_commentEnd)
-- NOT PRINTED: function 39 (tok_bogus)
-- NOT PRINTED: function 63 (tok_held)
-- NOT PRINTED: function 40 (tok_holds)
-- NOT PRINTED: function 41 (tok_heldLt)
-- NOT PRINTED: function 64 (tok_reads)
-- NOT PRINTED: function 42 (tok_heldSlash)
-- NOT PRINTED: function 43 (tok_heldName)
-- GIVEN BY HAND: function 15 (tok_Step)
-- NOT PRINTED: function 99 (bytealg_IndexByteString)
-- NOT PRINTED: function 90 (stringslite_IndexByte)
-- NOT PRINTED: function 96 (bytealg_IndexString)
-- NOT PRINTED: function 97 (bytealg_Cutover)
-- NOT PRINTED: function 103 (bytealg_hashStr_string)
-- NOT PRINTED: function 98 (bytealg_IndexRabinKarp_string)
-- NOT PRINTED: function 87 (stringslite_Index)
-- NOT PRINTED: function 74 (strings_Index)
-- NOT PRINTED: function 83 (utf8_RuneCountInString)
-- NOT PRINTED: function 84 (bytealg_CountString)
-- NOT PRINTED: function 72 (strings_Count)
-- NOT PRINTED: function 94 (abi_NoEscape)
-- NOT PRINTED: function 85 (strings_Builder_copyCheck)
-- NOT PRINTED: function 95 (bytealg_MakeNoZero)
-- NOT PRINTED: function 86 (strings_Builder_grow)
-- NOT PRINTED: function 73 (strings_Builder_Grow)
-- NOT PRINTED: function 75 (strings_Builder_WriteString)
-- NOT PRINTED: function 88 (utf8_decodeRuneInStringSlow)
-- NOT PRINTED: function 76 (utf8_DecodeRuneInString)
-- NOT PRINTED: function 77 (strings_Builder_String)
-- NOT PRINTED: function 65 (strings_Replace)
-- NOT PRINTED: function 44 (strings_ReplaceAll)
-- NOT PRINTED: function 18 (utf_Lines)
-- GIVEN BY HAND: function 19 (tok_Start)
-- NOT PRINTED: function 45 (tok_ends)
-- NOT PRINTED: function 80 (strings_IndexByte)
-- NOT PRINTED: function 100 (stringslite_HasPrefix)
-- NOT PRINTED: function 91 (strings_HasPrefix)
-- NOT PRINTED: function 104 (utf_Digit)
-- NOT PRINTED: function 101 (refs_digit)
-- NOT PRINTED: function 102 (utf8_ValidRune)
-- NOT PRINTED: function 92 (refs_numbered)
-- NOT PRINTED: function 93 (refs_named)
-- NOT PRINTED: function 81 (refs_meant)
-- NOT PRINTED: function 82 (strings_Builder_WriteByte)
-- NOT PRINTED: function 70 (refs_Decode)
-- NOT PRINTED: function 89 (api_Attr_89)
-- NOT PRINTED: function 79 (api_Attr_79)
-- NOT PRINTED: function 66 (tok_reader_kept)
-- NOT PRINTED: function 50 (tok_reader_text)
-- NOT PRINTED: function 67 (tok_reader_told)
-- NOT PRINTED: function 46 (tok_reader_tag)
-- NOT PRINTED: function 47 (tok_remarks)
-- NOT PRINTED: function 48 (tok_reader_comment)
-- NOT PRINTED: function 68 (tok_reader_last)
-- NOT PRINTED: function 49 (tok_reader_reads)
-- NOT PRINTED: function 20 (tok_reader_takes)
-- NOT PRINTED: function 21 (tok_reader_rest)
-- GIVEN BY HAND: function 11 (tok_Tokens)
-- GIVEN BY HAND: function 12 (stolelaw0_Num)
-- NOT PRINTED: function 22 (stolelaw0_SameAttrs)
-- GIVEN BY HAND: function 14 (stolelaw0_SameTokens)
/-! ### stolelaw5_at: function 17 -/
def stolelaw5_at.l0 : Nat → ByteArray → Int → Int → ByteArray → Bool → ByteArray → ByteArray → Int → Option (Int × ByteArray × Bool × ByteArray × ByteArray × Int)
 | 0, _, _, _, _, _, _, _, _ => none
 | k + 1, x0, x4, x109000, x109001, x109002, x109003, x109004, x109005 => if x4 < (x0.size : Int) then (if 0 ≤ x4 then ((tok_Step.f x109000 x109001 x109002 x109003 x109004 x109005 (bt x0 x4)).bind fun bt109 => (stolelaw5_at.l0 k x0 (wrap64 (x4 + 1)) bt109.1 bt109.2.1 bt109.2.2.1 bt109.2.2.2.1 bt109.2.2.2.2.1 bt109.2.2.2.2.2)) else (none)) else (some (x109000, x109001, x109002, x109003, x109004, x109005))
def stolelaw5_at.f (k : Nat) (a0 : ByteArray) : Option (Int × ByteArray × Bool × ByteArray × ByteArray × Int) := (tok_Start.f).bind fun bt102 => (stolelaw5_at.l0 k a0 0 bt102.1 bt102.2.1 bt102.2.2.1 bt102.2.2.2.1 bt102.2.2.2.2.1 bt102.2.2.2.2.2)
theorem stolelaw5_at.mono_l : ∀ k, (∀ y0 y1 y2 y3 y4 y5 y6 y7, LeO (stolelaw5_at.l0 k y0 y1 y2 y3 y4 y5 y6 y7) (stolelaw5_at.l0 (k + 1) y0 y1 y2 y3 y4 y5 y6 y7))
 | 0 => fun _ _ _ _ _ _ _ _ r h => by simp [stolelaw5_at.l0] at h
 | k + 1 => by
  have ih0 := stolelaw5_at.mono_l k
  ·intro y0 y1 y2 y3 y4 y5 y6 y7
   unfold stolelaw5_at.l0
   repeat' first
   | (with_reducible exact ih0 _ _ _ _ _ _ _ _)
   | (with_reducible exact LeO.refl _)
   | (with_reducible exact LeO.none _)
   | (with_reducible refine LeO.ite ?_ ?_)
   | (with_reducible refine LeO.bind ?_ (fun _ => ?_))
   | exact ih0 _ _ _ _ _ _ _ _
   | exact LeO.none _
   | refine LeO.ite ?_ ?_
   | refine LeO.bind ?_ (fun _ => ?_)
theorem stolelaw5_at.mono : ∀ a0 k, LeO (stolelaw5_at.f k a0) (stolelaw5_at.f (k + 1) a0) := by
 intro a0 k
 have ih0 := stolelaw5_at.mono_l k
 unfold stolelaw5_at.f
 repeat' first
   | (with_reducible exact ih0 _ _ _ _ _ _ _ _)
   | (with_reducible exact LeO.refl _)
   | (with_reducible exact LeO.none _)
   | (with_reducible refine LeO.ite ?_ ?_)
   | (with_reducible refine LeO.bind ?_ (fun _ => ?_))
   | exact ih0 _ _ _ _ _ _ _ _
   | exact LeO.none _
   | refine LeO.ite ?_ ?_
   | refine LeO.bind ?_ (fun _ => ?_)
set_option maxHeartbeats 8000000 in
set_option maxRecDepth 100000 in
theorem stolelaw5_at.calls (k : Nat) (a0 : ByteArray) (r1 : Int) (r2 : ByteArray) (r3 : Bool) (r4 : ByteArray) (r5 : ByteArray) (r6 : Int) (w : World) (h : stolelaw5_at.f k a0 = some (r1, r2, r3, r4, r5, r6)) :
  Calls Tryd.prog 17 #[.string a0] w fun e w' => e = .returned (.agg #[.int .i64 r1, .string r2, .bool r3, .string r4, .string r5, .int .i64 r6]) ∧ Below w.heap.size w w' := by
 have hu40 := Tryd.underlying40
 have HB := Aside0.mk (Below.refl w.heap.size w)
 have H : ((tok_Start.f).bind fun bt102 => (stolelaw5_at.l0 k a0 0 bt102.1 bt102.2.1 bt102.2.2.1 bt102.2.2.2.1 bt102.2.2.2.2.1 bt102.2.2.2.2.2)) = some (r1, r2, r3, r4, r5, r6) := h
 clear h
 replace H := Option.bind_eq_some_iff.mp H
 obtain ⟨⟨t102, t103, t104, t105, t106, t107⟩, A20, H⟩ := H
 replace H : (stolelaw5_at.l0 k a0 0 t102 t103 t104 t105 t106 t107) = some (r1, r2, r3, r4, r5, r6) := H
 have A2 := Aside0.mk A20
 clear A20
 have H' := Aside0.mk H
 clear H
 go_enter Tryd.func17, Tryd.ntmps17
 go_wp2_with (first | ((with_reducible refine gate_dst (N := 2) rfl ?_); refine box_event ?hg (N := 2) ?hd (cs := #[.int .i64 0, .string (⟨#[]⟩ : ByteArray), .bool false, .string (⟨#[]⟩ : ByteArray), .string (⟨#[]⟩ : ByteArray), .int .i64 0]) (t := 40) ?hr ?_; (case hd => rfl); (case hg => rfl); (case hr => first | (go_simp; done) | (go_simp; rfl)); intro gb101 hg w3 hbox hb; have n0_ := Aside0.mk (below_step (by repeat (first | (with_reducible first | exact HB.out | apply below_alloc | apply pw_below_drewN | apply below_drew1) | exact HB.out)) hb); have n1_ := Aside0.mk (hbox); have n2_ := Aside0.mk ((by rw [hg]; exact (below_size (by repeat (first | (with_reducible first | exact HB.out | apply below_alloc | apply pw_below_drewN | apply below_drew1) | exact HB.out))) : w.heap.size ≤ gb101)); have n3_ := Aside0.mk ((by rw [hg]; exact (below_size (by repeat (first | (with_reducible first | exact HB.out | apply below_alloc | apply pw_below_drewN | apply below_drew1) | exact HB.out))) : w.heap.size ≤ gb101)); clear HB; have HB := n0_; have BK101 := n1_; have GW101 := n2_; have GE101 := n3_; clear n0_ n1_ n2_ n3_; clear hb hbox hg) | ((with_reducible refine gate_callee (f := 19) rfl ?_); refine goesL_ (some 5) rfl rfl Tryd.func19 (by kernel_rfl) rfl #[] rfl (by (try simp only [List.map_toArray, List.map_cons, List.map_nil]); first | done | rfl | (simp only [List.length_drop, List.length_take]; rfl)) ?_; (with_reducible refine (tok_Start.calls  t102 t103 t104 t105 t106 t107 _ A2.out).mono ?_); rintro e w4 ⟨rfl, hb⟩; refine ⟨_, rfl, ?_⟩; have n0_ := Aside0.mk (blk_below (g := gb101) (o := .cells #[.int .i64 0, .string (⟨#[]⟩ : ByteArray), .bool false, .string (⟨#[]⟩ : ByteArray), .string (⟨#[]⟩ : ByteArray), .int .i64 0] 40 (0, 0)) (by (with_reducible repeat (first | refine blk_drewN ?_ _ | refine blk_drew ?_ | refine blk_alloc ?_ _)); exact BK101.out) hb); have n1_ := Aside0.mk (below_step (by repeat (first | (with_reducible first | exact HB.out | apply below_alloc | apply pw_below_drewN | apply below_drew1 | refine below_set ?_ GE101.out) | exact HB.out)) hb); clear BK101; clear HB; have BK101 := n0_; have HB := n1_; clear n0_ n1_; (try clear hb); (try clear hb2); (try clear hk); (try clear hi)) | ((with_reducible refine gate_dst (N := 3) rfl ?_); refine box_event ?hg (N := 3) ?hd (cs := #[.int .i64 0, .string (⟨#[]⟩ : ByteArray), .bool false, .string (⟨#[]⟩ : ByteArray), .string (⟨#[]⟩ : ByteArray), .int .i64 0]) (t := 40) ?hr ?_; (case hd => rfl); (case hg => rfl); (case hr => first | (go_simp; done) | (go_simp; rfl)); intro gb108 hg w5 hbox hb; have n0_ := Aside0.mk (blk_below (g := gb101) (o := .cells #[.int .i64 0, .string (⟨#[]⟩ : ByteArray), .bool false, .string (⟨#[]⟩ : ByteArray), .string (⟨#[]⟩ : ByteArray), .int .i64 0] 40 (0, 0)) (by (with_reducible repeat (first | refine blk_drewN ?_ _ | refine blk_drew ?_ | refine blk_alloc ?_ _)); exact BK101.out) hb); have n1_ := Aside0.mk (below_step (by repeat (first | (with_reducible first | exact HB.out | apply below_alloc | apply pw_below_drewN | apply below_drew1 | refine below_set ?_ GE101.out) | exact HB.out)) hb); have n2_ := Aside0.mk (hbox); have n3_ := Aside0.mk ((by rw [hg]; exact (below_size (by repeat (first | (with_reducible first | exact HB.out | apply below_alloc | apply pw_below_drewN | apply below_drew1 | refine below_set ?_ GE101.out) | exact HB.out))) : w.heap.size ≤ gb108)); have n4_ := Aside0.mk ((by rw [hg]; exact (below_size (by repeat (first | (with_reducible first | exact HB.out | apply below_alloc | apply pw_below_drewN | apply below_drew1 | refine below_set ?_ GE101.out) | exact HB.out))) : w.heap.size ≤ gb108)); have n5_ := Aside0.mk ((by rw [hg]; exact Nat.ne_of_lt (blk_lt (g := gb101) (o := .cells #[.int .i64 0, .string (⟨#[]⟩ : ByteArray), .bool false, .string (⟨#[]⟩ : ByteArray), .string (⟨#[]⟩ : ByteArray), .int .i64 0] 40 (0, 0)) (by (with_reducible repeat (first | refine blk_drewN ?_ _ | refine blk_drew ?_ | refine blk_alloc ?_ _)); exact BK101.out)) : gb101 ≠ gb108)); have n6_ := Aside0.mk ((by rw [hg]; exact Nat.ne_of_gt (blk_lt (g := gb101) (o := .cells #[.int .i64 0, .string (⟨#[]⟩ : ByteArray), .bool false, .string (⟨#[]⟩ : ByteArray), .string (⟨#[]⟩ : ByteArray), .int .i64 0] 40 (0, 0)) (by (with_reducible repeat (first | refine blk_drewN ?_ _ | refine blk_drew ?_ | refine blk_alloc ?_ _)); exact BK101.out)) : gb108 ≠ gb101)); clear BK101; clear HB; have BK101 := n0_; have HB := n1_; have BK108 := n2_; have GW108 := n3_; have GE108 := n4_; have NB101_108 := n5_; have NB108_101 := n6_; clear n0_ n1_ n2_ n3_ n4_ n5_ n6_; clear hb hbox hg; have hnb6 := NB108_101.out; have hnc6 := NB101_108.out; have hcz7_0 : w5.cell? ⟨gb108, 0, none⟩ = some (.int .i64 0) := (blk_cell BK108.out 0).trans rfl; have hcz7_1 : w5.cell? ⟨gb108, 1, none⟩ = some (.string (⟨#[]⟩ : ByteArray)) := (blk_cell BK108.out 1).trans rfl; have hcz7_2 : w5.cell? ⟨gb108, 2, none⟩ = some (.bool false) := (blk_cell BK108.out 2).trans rfl; have hcz7_3 : w5.cell? ⟨gb108, 3, none⟩ = some (.string (⟨#[]⟩ : ByteArray)) := (blk_cell BK108.out 3).trans rfl; have hcz7_4 : w5.cell? ⟨gb108, 4, none⟩ = some (.string (⟨#[]⟩ : ByteArray)) := (blk_cell BK108.out 4).trans rfl; have hcz7_5 : w5.cell? ⟨gb108, 5, none⟩ = some (.int .i64 0) := (blk_cell BK108.out 5).trans rfl; have hfz7_0 := blk_frozen BK108.out 0; have hfz7_1 := blk_frozen BK108.out 1; have hfz7_2 := blk_frozen BK108.out 2; have hfz7_3 := blk_frozen BK108.out 3; have hfz7_4 := blk_frozen BK108.out 4; have hfz7_5 := blk_frozen BK108.out 5))
 go_loopg [4] k (fun kq v4 w' => ∃ (x4_1 : Int) (x109000_1 : Int) (x109001_1 : ByteArray) (x109002_1 : Bool) (x109003_1 : ByteArray) (x109004_1 : ByteArray) (x109005_1 : Int), v4 = .int .i64 x4_1 ∧ Aside0 (stolelaw5_at.l0 kq a0 x4_1 x109000_1 x109001_1 x109002_1 x109003_1 x109004_1 x109005_1 = some (r1, r2, r3, r4, r5, r6)) ∧ Aside0 (kq ≤ k) ∧ Aside0 (w'.heap[gb101]? = some (.cells #[.int .i64 0, .string (⟨#[]⟩ : ByteArray), .bool false, .string (⟨#[]⟩ : ByteArray), .string (⟨#[]⟩ : ByteArray), .int .i64 0] 40 (0, 0))) ∧ Aside0 (w'.heap[gb108]? = some (.cells #[.int .i64 x109000_1, .string x109001_1, .bool x109002_1, .string x109003_1, .string x109004_1, .int .i64 x109005_1] 40 (0, 0))) ∧ Aside0 (Below w.heap.size w w'))
 case atStart => exact ⟨(0), (t102), (t103), (t104), (t105), (t106), (t107), (by first | rfl | (simp; done) | (simp [*]; done)), H', ⟨Nat.le_refl _⟩, ⟨by (with_reducible repeat (first | refine blk_drewN ?_ _ | refine blk_drew ?_ | refine blk_alloc ?_ _)); refine blk_far ?_ NB101_108.out _; (with_reducible repeat (first | refine blk_drewN ?_ _ | refine blk_drew ?_ | refine blk_alloc ?_ _)); refine blk_far ?_ NB101_108.out _; (with_reducible repeat (first | refine blk_drewN ?_ _ | refine blk_drew ?_ | refine blk_alloc ?_ _)); refine blk_far ?_ NB101_108.out _; (with_reducible repeat (first | refine blk_drewN ?_ _ | refine blk_drew ?_ | refine blk_alloc ?_ _)); refine blk_far ?_ NB101_108.out _; (with_reducible repeat (first | refine blk_drewN ?_ _ | refine blk_drew ?_ | refine blk_alloc ?_ _)); refine blk_far ?_ NB101_108.out _; (with_reducible repeat (first | refine blk_drewN ?_ _ | refine blk_drew ?_ | refine blk_alloc ?_ _)); refine blk_far ?_ NB101_108.out _; (with_reducible repeat (first | refine blk_drewN ?_ _ | refine blk_drew ?_ | refine blk_alloc ?_ _)); exact BK101.out⟩, ⟨by (with_reducible repeat (first | refine blk_drewN ?_ _ | refine blk_drew ?_ | refine blk_alloc ?_ _)); refine blk_put (cs := #[.int .i64 t102, .string t103, .bool t104, .string t105, .string t106, .int .i64 0]) ?_ 5 _ rfl; (with_reducible repeat (first | refine blk_drewN ?_ _ | refine blk_drew ?_ | refine blk_alloc ?_ _)); refine blk_put (cs := #[.int .i64 t102, .string t103, .bool t104, .string t105, .string (⟨#[]⟩ : ByteArray), .int .i64 0]) ?_ 4 _ rfl; (with_reducible repeat (first | refine blk_drewN ?_ _ | refine blk_drew ?_ | refine blk_alloc ?_ _)); refine blk_put (cs := #[.int .i64 t102, .string t103, .bool t104, .string (⟨#[]⟩ : ByteArray), .string (⟨#[]⟩ : ByteArray), .int .i64 0]) ?_ 3 _ rfl; (with_reducible repeat (first | refine blk_drewN ?_ _ | refine blk_drew ?_ | refine blk_alloc ?_ _)); refine blk_put (cs := #[.int .i64 t102, .string t103, .bool false, .string (⟨#[]⟩ : ByteArray), .string (⟨#[]⟩ : ByteArray), .int .i64 0]) ?_ 2 _ rfl; (with_reducible repeat (first | refine blk_drewN ?_ _ | refine blk_drew ?_ | refine blk_alloc ?_ _)); refine blk_put (cs := #[.int .i64 t102, .string (⟨#[]⟩ : ByteArray), .bool false, .string (⟨#[]⟩ : ByteArray), .string (⟨#[]⟩ : ByteArray), .int .i64 0]) ?_ 1 _ rfl; (with_reducible repeat (first | refine blk_drewN ?_ _ | refine blk_drew ?_ | refine blk_alloc ?_ _)); refine blk_put (cs := #[.int .i64 0, .string (⟨#[]⟩ : ByteArray), .bool false, .string (⟨#[]⟩ : ByteArray), .string (⟨#[]⟩ : ByteArray), .int .i64 0]) ?_ 0 _ rfl; (with_reducible repeat (first | refine blk_drewN ?_ _ | refine blk_drew ?_ | refine blk_alloc ?_ _)); exact BK108.out⟩, ⟨by repeat (first | (with_reducible first | exact HB.out | apply below_alloc | apply pw_below_drewN | apply below_drew1 | refine below_set ?_ GE101.out | refine below_set ?_ GE108.out) | exact HB.out)⟩⟩
 case round =>
  clear H'
  try clear c1
  try clear p2
  try clear c6
  try clear hcz7_0
  try clear hcz7_1
  try clear hcz7_2
  try clear hcz7_3
  try clear hcz7_4
  try clear hcz7_5
  try clear hfz7_0
  try clear hfz7_1
  try clear hfz7_2
  try clear hfz7_3
  try clear hfz7_4
  try clear hfz7_5
  obtain ⟨x4_1, x109000_1, x109001_1, x109002_1, x109003_1, x109004_1, x109005_1, rfl, HA, HK1, BK101, BK108, HB⟩ := hrel
  cases gk with
  | zero => exact absurd HA.out (by simp [stolelaw5_at.l0])
  | succ k1 =>
   have H := HA.out
   clear HA
   simp only [stolelaw5_at.l0] at H
   by_cases c8 : x4_1 < (a0.size : Int)
   ·rw [if_pos c8] at H
    have c8b0 : decide (x4_1 < (a0.size : Int)) = true := decide_eq_true c8
    clear c8
    by_cases c9 : 0 ≤ x4_1
    ·rw [if_pos c9] at H
     have c9b0 : decide (0 ≤ x4_1) = true := decide_eq_true c9
     clear c9
     replace H := Option.bind_eq_some_iff.mp H
     obtain ⟨⟨t109, t110, t111, t112, t113, t114⟩, A110, H⟩ := H
     replace H : (stolelaw5_at.l0 k1 a0 (wrap64 (x4_1 + 1)) t109 t110 t111 t112 t113 t114) = some (r1, r2, r3, r4, r5, r6) := H
     have A11 := Aside0.mk A110
     clear A110
     have H' := Aside0.mk H
     clear H
     try go_wp2
     have n0_ := Aside0.mk (blk_drew BK101.out)
     have n1_ := Aside0.mk (blk_drew BK108.out)
     have n2_ := Aside0.mk (below_drew1 HB.out)
     clear BK101
     clear BK108
     clear HB
     have BK101 := n0_
     have BK108 := n1_
     have HB := n2_
     clear n0_ n1_ n2_
     have p10 : 0 ≤ (x4_1 : Int) := of_decide_eq_true (by first | (with_reducible assumption) | assumption)
     have q10 : x4_1 < (a0.size : Int) := of_decide_eq_true (by first | (with_reducible assumption) | assumption)
     have hx10 := bt_at a0 x4_1
     replace p10 := eq_true p10
     replace q10 := eq_true q10
     refine start_ (n := 6) (S := fun w' => w'.cell? ⟨gb108, 0, none⟩ = some (.int .i64 x109000_1) ∧ w'.cell? ⟨gb108, 1, none⟩ = some (.string x109001_1) ∧ w'.cell? ⟨gb108, 2, none⟩ = some (.bool x109002_1) ∧ w'.cell? ⟨gb108, 3, none⟩ = some (.string x109003_1) ∧ w'.cell? ⟨gb108, 4, none⟩ = some (.string x109004_1) ∧ w'.cell? ⟨gb108, 5, none⟩ = some (.int .i64 x109005_1)) (ds := [5]) #[false, false, false, false, false, false] (by kernel_rfl) rfl rfl ⟨(blk_cell BK108.out 0).trans rfl, (blk_cell BK108.out 1).trans rfl, (blk_cell BK108.out 2).trans rfl, (blk_cell BK108.out 3).trans rfl, (blk_cell BK108.out 4).trans rfl, (blk_cell BK108.out 5).trans rfl⟩ (fun hHeld => ?_)
     generalize wr.drew = w12 at BK101 BK108 HB hHeld ⊢
     refine pS 1 13 #[false, true, false, false, false, false] ?_
     refine pS 2 14 #[false, true, true, false, false, false] ?_
     refine take_ (i := 0) (N := some 12) (v := ?_) (a' := ?_) #[true, true, true, false, false, false] rfl rfl (by kernel_rfl) (fun _ _ _ h => h) (Or.inl ⟨by rfl, ?_⟩) hHeld ?_ ?_
     rotate_left
     ·rintro w' ⟨s0, s1, s2, s3, s4, s5⟩
      go_simp
      with_reducible rfl
     rotate_left
     ·simp only [Act.put, zA, zZ, zS, i64_w, i32_w]
      rfl
     refine take_ (i := 3) (N := some 15) (v := ?_) (a' := ?_) #[true, true, true, true, false, false] rfl rfl (by kernel_rfl) (fun _ _ _ h => h) (Or.inl ⟨by rfl, ?_⟩) hHeld ?_ ?_
     rotate_left
     ·rintro w' ⟨s0, s1, s2, s3, s4, s5⟩
      go_simp
      with_reducible rfl
     rotate_left
     ·simp only [Act.put, zA, zZ, zS, i64_w, i32_w]
      rfl
     refine one_ (i := 4) (N := some 16) #[true, true, true, true, true, false] rfl rfl (by kernel_rfl) (by decide) (fun K hK => ?_)
     refine goes_ Tryd.func15 (by kernel_rfl) rfl #[.agg #[.int .i64 x109000_1, .string x109001_1, .bool x109002_1, .string x109003_1, .string x109004_1, .int .i64 x109005_1], .int .u8 (bt a0 x4_1)] (by rfl) rfl rfl (by (try simp only [List.map_toArray, List.map_cons, List.map_nil]); first | done | rfl | (simp only [List.length_drop, List.length_take]; rfl)) ?_
     with_reducible refine (tok_Step.calls x109000_1 x109001_1 x109002_1 x109003_1 x109004_1 x109005_1 (bt a0 x4_1) t109 t110 t111 t112 t113 t114 _ A11.out).mono ?_
     rintro e w13 ⟨rfl, hb⟩
     refine ⟨_, rfl, ?_⟩
     have n0_ := Aside0.mk (blk_below (g := gb101) (o := .cells #[.int .i64 0, .string (⟨#[]⟩ : ByteArray), .bool false, .string (⟨#[]⟩ : ByteArray), .string (⟨#[]⟩ : ByteArray), .int .i64 0] 40 (0, 0)) (by (with_reducible repeat (first | refine blk_drewN ?_ _ | refine blk_drew ?_ | refine blk_alloc ?_ _)); exact BK101.out) hb)
     have n1_ := Aside0.mk (blk_below (g := gb108) (o := .cells #[.int .i64 x109000_1, .string x109001_1, .bool x109002_1, .string x109003_1, .string x109004_1, .int .i64 x109005_1] 40 (0, 0)) (by (with_reducible repeat (first | refine blk_drewN ?_ _ | refine blk_drew ?_ | refine blk_alloc ?_ _)); exact BK108.out) hb)
     have n2_ := Aside0.mk (below_step (by repeat (first | (with_reducible first | exact HB.out | apply below_alloc | apply pw_below_drewN | apply below_drew1 | refine below_set ?_ GE101.out | refine below_set ?_ GE108.out) | exact HB.out)) hb)
     clear BK101
     clear BK108
     clear HB
     have BK101 := n0_
     have BK108 := n1_
     have HB := n2_
     clear n0_ n1_ n2_
     (try clear hb)
     (try clear hb2)
     (try clear hk)
     (try clear hi)
     refine hK.out _ _ ⟨(blk_cell BK108.out 0).trans rfl, (blk_cell BK108.out 1).trans rfl, (blk_cell BK108.out 2).trans rfl, (blk_cell BK108.out 3).trans rfl, (blk_cell BK108.out 4).trans rfl, (blk_cell BK108.out 5).trans rfl⟩ (fun hHeld => ?_)
     clear hK K
     refine norm_ (a' := ?_) ?_ ?_
     rotate_left
     ·show Act.put _ (some 16) _ = _
      simp only [Act.put, zA, zZ, zS, i64_w, i32_w]
      rfl
     refine last_ (i := 5) (N := none) #[true, true, true, true, true, true] rfl rfl (by kernel_rfl) (by decide) (fun K hK => ?_)
     have hs14 : w13.cell? ⟨gb108, 0, none⟩ = some (.int .i64 x109000_1) := (blk_cell BK108.out 0).trans rfl
     have hfs14 := blk_frozen BK108.out 0
     have hns14_0 := NB101_108.out
     have hms14_0 := NB108_101.out
     have hs15 : w13.cell? ⟨gb108, 1, none⟩ = some (.string x109001_1) := (blk_cell BK108.out 1).trans rfl
     have hfs15 := blk_frozen BK108.out 1
     have hns15_0 := NB101_108.out
     have hms15_0 := NB108_101.out
     have hs16 : w13.cell? ⟨gb108, 2, none⟩ = some (.bool x109002_1) := (blk_cell BK108.out 2).trans rfl
     have hfs16 := blk_frozen BK108.out 2
     have hns16_0 := NB101_108.out
     have hms16_0 := NB108_101.out
     have hs17 : w13.cell? ⟨gb108, 3, none⟩ = some (.string x109003_1) := (blk_cell BK108.out 3).trans rfl
     have hfs17 := blk_frozen BK108.out 3
     have hns17_0 := NB101_108.out
     have hms17_0 := NB108_101.out
     have hs18 : w13.cell? ⟨gb108, 4, none⟩ = some (.string x109004_1) := (blk_cell BK108.out 4).trans rfl
     have hfs18 := blk_frozen BK108.out 4
     have hns18_0 := NB101_108.out
     have hms18_0 := NB108_101.out
     have hs19 : w13.cell? ⟨gb108, 5, none⟩ = some (.int .i64 x109005_1) := (blk_cell BK108.out 5).trans rfl
     have hfs19 := blk_frozen BK108.out 5
     have hns19_0 := NB101_108.out
     have hms19_0 := NB108_101.out
     refine skip_ (w1 := ?_) (by rfl) rfl ?_ ?_
     rotate_left
     ·go_simp
      rfl
     refine hK.out _ _ ?_
     clear hK K
     refine done_ (by kernel_rfl) ?_
     try go_wp2
     go_roundg k1
     case measure => have := HK1.out; omega
     case rel => exact ⟨(wrap64 (x4_1 + 1)), (t109), (t110), (t111), (t112), (t113), (t114), (by first | rfl | (simp; done) | (simp [*]; done)), H', ⟨by have := HK1.out; omega⟩, ⟨by (with_reducible repeat (first | refine blk_drewN ?_ _ | refine blk_drew ?_ | refine blk_alloc ?_ _)); refine blk_far ?_ NB101_108.out _; (with_reducible repeat (first | refine blk_drewN ?_ _ | refine blk_drew ?_ | refine blk_alloc ?_ _)); refine blk_far ?_ NB101_108.out _; (with_reducible repeat (first | refine blk_drewN ?_ _ | refine blk_drew ?_ | refine blk_alloc ?_ _)); refine blk_far ?_ NB101_108.out _; (with_reducible repeat (first | refine blk_drewN ?_ _ | refine blk_drew ?_ | refine blk_alloc ?_ _)); refine blk_far ?_ NB101_108.out _; (with_reducible repeat (first | refine blk_drewN ?_ _ | refine blk_drew ?_ | refine blk_alloc ?_ _)); refine blk_far ?_ NB101_108.out _; (with_reducible repeat (first | refine blk_drewN ?_ _ | refine blk_drew ?_ | refine blk_alloc ?_ _)); refine blk_far ?_ NB101_108.out _; (with_reducible repeat (first | refine blk_drewN ?_ _ | refine blk_drew ?_ | refine blk_alloc ?_ _)); exact BK101.out⟩, ⟨by (with_reducible repeat (first | refine blk_drewN ?_ _ | refine blk_drew ?_ | refine blk_alloc ?_ _)); refine blk_put (cs := #[.int .i64 t109, .string t110, .bool t111, .string t112, .string t113, .int .i64 x109005_1]) ?_ 5 _ rfl; (with_reducible repeat (first | refine blk_drewN ?_ _ | refine blk_drew ?_ | refine blk_alloc ?_ _)); refine blk_put (cs := #[.int .i64 t109, .string t110, .bool t111, .string t112, .string x109004_1, .int .i64 x109005_1]) ?_ 4 _ rfl; (with_reducible repeat (first | refine blk_drewN ?_ _ | refine blk_drew ?_ | refine blk_alloc ?_ _)); refine blk_put (cs := #[.int .i64 t109, .string t110, .bool t111, .string x109003_1, .string x109004_1, .int .i64 x109005_1]) ?_ 3 _ rfl; (with_reducible repeat (first | refine blk_drewN ?_ _ | refine blk_drew ?_ | refine blk_alloc ?_ _)); refine blk_put (cs := #[.int .i64 t109, .string t110, .bool x109002_1, .string x109003_1, .string x109004_1, .int .i64 x109005_1]) ?_ 2 _ rfl; (with_reducible repeat (first | refine blk_drewN ?_ _ | refine blk_drew ?_ | refine blk_alloc ?_ _)); refine blk_put (cs := #[.int .i64 t109, .string x109001_1, .bool x109002_1, .string x109003_1, .string x109004_1, .int .i64 x109005_1]) ?_ 1 _ rfl; (with_reducible repeat (first | refine blk_drewN ?_ _ | refine blk_drew ?_ | refine blk_alloc ?_ _)); refine blk_put (cs := #[.int .i64 x109000_1, .string x109001_1, .bool x109002_1, .string x109003_1, .string x109004_1, .int .i64 x109005_1]) ?_ 0 _ rfl; (with_reducible repeat (first | refine blk_drewN ?_ _ | refine blk_drew ?_ | refine blk_alloc ?_ _)); exact BK108.out⟩, ⟨by repeat (first | (with_reducible first | exact HB.out | apply below_alloc | apply pw_below_drewN | apply below_drew1 | refine below_set ?_ GE101.out | refine below_set ?_ GE108.out) | exact HB.out)⟩⟩
    ·rw [if_neg c9] at H
     exact absurd H (by simp)
   ·rw [if_neg c8] at H
    have c8b0 : decide (x4_1 < (a0.size : Int)) = false := decide_eq_false c8
    clear c8
    simp only [Option.some.injEq, Prod.mk.injEq] at H
    obtain ⟨rfl, rfl, rfl, rfl, rfl, rfl⟩ := H
    have hnb20 := NB108_101.out
    have hnc20 := NB101_108.out
    have hcz21_0 : wr.cell? ⟨gb108, 0, none⟩ = some (.int .i64 x109000_1) := (blk_cell BK108.out 0).trans rfl
    have hcz21_1 : wr.cell? ⟨gb108, 1, none⟩ = some (.string x109001_1) := (blk_cell BK108.out 1).trans rfl
    have hcz21_2 : wr.cell? ⟨gb108, 2, none⟩ = some (.bool x109002_1) := (blk_cell BK108.out 2).trans rfl
    have hcz21_3 : wr.cell? ⟨gb108, 3, none⟩ = some (.string x109003_1) := (blk_cell BK108.out 3).trans rfl
    have hcz21_4 : wr.cell? ⟨gb108, 4, none⟩ = some (.string x109004_1) := (blk_cell BK108.out 4).trans rfl
    have hcz21_5 : wr.cell? ⟨gb108, 5, none⟩ = some (.int .i64 x109005_1) := (blk_cell BK108.out 5).trans rfl
    have hfz21_0 := blk_frozen BK108.out 0
    have hfz21_1 := blk_frozen BK108.out 1
    have hfz21_2 := blk_frozen BK108.out 2
    have hfz21_3 := blk_frozen BK108.out 3
    have hfz21_4 := blk_frozen BK108.out 4
    have hfz21_5 := blk_frozen BK108.out 5
    have hcz22_0 : wr.cell? ⟨gb101, 0, none⟩ = some (.int .i64 0) := (blk_cell BK101.out 0).trans rfl
    have hcz22_1 : wr.cell? ⟨gb101, 1, none⟩ = some (.string (⟨#[]⟩ : ByteArray)) := (blk_cell BK101.out 1).trans rfl
    have hcz22_2 : wr.cell? ⟨gb101, 2, none⟩ = some (.bool false) := (blk_cell BK101.out 2).trans rfl
    have hcz22_3 : wr.cell? ⟨gb101, 3, none⟩ = some (.string (⟨#[]⟩ : ByteArray)) := (blk_cell BK101.out 3).trans rfl
    have hcz22_4 : wr.cell? ⟨gb101, 4, none⟩ = some (.string (⟨#[]⟩ : ByteArray)) := (blk_cell BK101.out 4).trans rfl
    have hcz22_5 : wr.cell? ⟨gb101, 5, none⟩ = some (.int .i64 0) := (blk_cell BK101.out 5).trans rfl
    have hfz22_0 := blk_frozen BK101.out 0
    have hfz22_1 := blk_frozen BK101.out 1
    have hfz22_2 := blk_frozen BK101.out 2
    have hfz22_3 := blk_frozen BK101.out 3
    have hfz22_4 := blk_frozen BK101.out 4
    have hfz22_5 := blk_frozen BK101.out 5
    go_wp2
    refine bodyPost_ret (results_cell_row rfl _ _ gb101 40 #[.int .i64 x109000_1, .string x109001_1, .bool x109002_1, .string x109003_1, .string x109004_1, .int .i64 x109005_1] (0, 0) _ rfl (by (with_reducible repeat (first | refine blk_drewN ?_ _ | refine blk_drew ?_ | refine blk_alloc ?_ _)); refine blk_put (cs := #[.int .i64 x109000_1, .string x109001_1, .bool x109002_1, .string x109003_1, .string x109004_1, .int .i64 0]) ?_ 5 _ rfl; (with_reducible repeat (first | refine blk_drewN ?_ _ | refine blk_drew ?_ | refine blk_alloc ?_ _)); refine blk_put (cs := #[.int .i64 x109000_1, .string x109001_1, .bool x109002_1, .string x109003_1, .string (⟨#[]⟩ : ByteArray), .int .i64 0]) ?_ 4 _ rfl; (with_reducible repeat (first | refine blk_drewN ?_ _ | refine blk_drew ?_ | refine blk_alloc ?_ _)); refine blk_put (cs := #[.int .i64 x109000_1, .string x109001_1, .bool x109002_1, .string (⟨#[]⟩ : ByteArray), .string (⟨#[]⟩ : ByteArray), .int .i64 0]) ?_ 3 _ rfl; (with_reducible repeat (first | refine blk_drewN ?_ _ | refine blk_drew ?_ | refine blk_alloc ?_ _)); refine blk_put (cs := #[.int .i64 x109000_1, .string x109001_1, .bool false, .string (⟨#[]⟩ : ByteArray), .string (⟨#[]⟩ : ByteArray), .int .i64 0]) ?_ 2 _ rfl; (with_reducible repeat (first | refine blk_drewN ?_ _ | refine blk_drew ?_ | refine blk_alloc ?_ _)); refine blk_put (cs := #[.int .i64 x109000_1, .string (⟨#[]⟩ : ByteArray), .bool false, .string (⟨#[]⟩ : ByteArray), .string (⟨#[]⟩ : ByteArray), .int .i64 0]) ?_ 1 _ rfl; (with_reducible repeat (first | refine blk_drewN ?_ _ | refine blk_drew ?_ | refine blk_alloc ?_ _)); refine blk_put (cs := #[.int .i64 0, .string (⟨#[]⟩ : ByteArray), .bool false, .string (⟨#[]⟩ : ByteArray), .string (⟨#[]⟩ : ByteArray), .int .i64 0]) ?_ 0 _ rfl; (with_reducible repeat (first | refine blk_drewN ?_ _ | refine blk_drew ?_ | refine blk_alloc ?_ _)); exact BK101.out) Tryd.underlying40 rfl (by kernel_rfl)) rfl ?_
    exact ⟨by first | rfl | (simp [errW_none, errW_some] <;> rfl) | (simp [*, errW_none, errW_some] <;> rfl), by repeat (first | (with_reducible first | exact HB.out | apply below_alloc | apply pw_below_drewN | apply below_drew1 | refine below_set ?_ GE101.out | refine below_set ?_ GE108.out) | exact HB.out)⟩
/-! ### stolelaw5_awake: function 10 -/
def stolelaw5_awake.f (k : Nat)  : Option (Bool) := (tok_Tokens.f (⟨#[97, 60, 80, 32, 120, 61, 39, 49, 39, 32, 88, 61, 50, 32, 121, 62, 98, 38, 108, 116, 59, 60, 98, 114, 47, 62, 60, 47, 112, 62, 60, 33, 45, 45, 99, 45, 45, 62, 60, 116, 105, 116, 108, 101, 62, 60, 47, 116, 105, 116, 60, 47, 84, 73, 84, 76, 69, 62]⟩ : ByteArray)).bind fun bt115 => (if 65537 ≤ 281474976710656 then ((tok_Tokens.f (strOfNums (List.replicate 65537 0))).bind fun bt122 => ((stolelaw0_SameTokens.f bt115.1 (([(⟨0, (⟨#[]⟩ : ByteArray), (⟨#[97]⟩ : ByteArray), ([] : List (S47)), false⟩ : S30), (⟨1, (⟨#[112]⟩ : ByteArray), (⟨#[]⟩ : ByteArray), (([(⟨(⟨#[120]⟩ : ByteArray), (⟨#[49]⟩ : ByteArray)⟩ : S47), (⟨(⟨#[121]⟩ : ByteArray), (⟨#[]⟩ : ByteArray)⟩ : S47)] : List (S47))), false⟩ : S30), (⟨0, (⟨#[]⟩ : ByteArray), (⟨#[98, 60]⟩ : ByteArray), ([] : List (S47)), false⟩ : S30), (⟨1, (⟨#[98, 114]⟩ : ByteArray), (⟨#[]⟩ : ByteArray), ([] : List (S47)), true⟩ : S30), (⟨2, (⟨#[112]⟩ : ByteArray), (⟨#[]⟩ : ByteArray), ([] : List (S47)), false⟩ : S30), (⟨3, (⟨#[]⟩ : ByteArray), (⟨#[99]⟩ : ByteArray), ([] : List (S47)), false⟩ : S30), (⟨1, (⟨#[116, 105, 116, 108, 101]⟩ : ByteArray), (⟨#[]⟩ : ByteArray), ([] : List (S47)), false⟩ : S30), (⟨0, (⟨#[]⟩ : ByteArray), (⟨#[60, 47, 116, 105, 116]⟩ : ByteArray), ([] : List (S47)), false⟩ : S30), (⟨2, (⟨#[116, 105, 116, 108, 101]⟩ : ByteArray), (⟨#[]⟩ : ByteArray), ([] : List (S47)), false⟩ : S30)] : List (S30)))).bind fun t132 => (if t132 = true then ((stolelaw0_Num.f bt115.2).bind fun t133 => (if t133 = 0 then ((stolelaw0_Num.f bt122.2).bind fun t134 => (if t134 = 500 then ((stolelaw5_at.f k (⟨#[60, 97, 32, 98, 61, 34, 99]⟩ : ByteArray)).bind fun bt135 => (if (bt135.1 == 8 && (bt135.2.1.toList == ([97] : List UInt8) && (!bt135.2.2.1 && (bt135.2.2.2.1.toList == ([98] : List UInt8) && (bt135.2.2.2.2.1.toList == ([] : List UInt8) && (bt135.2.2.2.2.2 == 0)))))) = true then ((stolelaw5_at.f k (⟨#[60, 115, 116, 121, 108, 101, 62, 60, 47, 115, 84]⟩ : ByteArray)).bind fun bt141 => (some (bt141.1 == 22 && (bt141.2.1.toList == ([] : List UInt8) && (!bt141.2.2.1 && (bt141.2.2.2.1.toList == ([] : List UInt8) && (bt141.2.2.2.2.1.toList == ([115, 116, 121, 108, 101] : List UInt8) && (bt141.2.2.2.2.2 == 2)))))))) else (some false))) else (some false))) else (some false))) else (some false)))) else (none))
theorem stolelaw5_awake.mono : ∀ k, LeO (stolelaw5_awake.f k ) (stolelaw5_awake.f (k + 1) ) := by
 intro  k
 unfold stolelaw5_awake.f
 repeat' first
   | (with_reducible exact stolelaw5_at.mono _ _)
   | (with_reducible exact LeO.refl _)
   | (with_reducible exact LeO.none _)
   | (with_reducible refine LeO.ite ?_ ?_)
   | (with_reducible refine LeO.bind ?_ (fun _ => ?_))
   | exact stolelaw5_at.mono _ _
   | exact LeO.none _
   | refine LeO.ite ?_ ?_
   | refine LeO.bind ?_ (fun _ => ?_)
set_option maxHeartbeats 8000000 in
set_option maxRecDepth 100000 in
theorem stolelaw5_awake.calls (k : Nat)  (r : Bool) (w : World) (hT : Tabs w) (h : stolelaw5_awake.f k  = some r) (hr : r = true) :
  Calls Tryd.prog 10 #[] w fun e w' => e = .returned (.bool r) ∧ Below w.heap.size w w' := by
 have hu30 := Tryd.underlying30
 have hu47 := Tryd.underlying47
 have hu40 := Tryd.underlying40
 have HT := Aside0.mk hT
 clear hT
 have HB := Aside0.mk (Below.refl w.heap.size w)
 have H : ((tok_Tokens.f (⟨#[97, 60, 80, 32, 120, 61, 39, 49, 39, 32, 88, 61, 50, 32, 121, 62, 98, 38, 108, 116, 59, 60, 98, 114, 47, 62, 60, 47, 112, 62, 60, 33, 45, 45, 99, 45, 45, 62, 60, 116, 105, 116, 108, 101, 62, 60, 47, 116, 105, 116, 60, 47, 84, 73, 84, 76, 69, 62]⟩ : ByteArray)).bind fun bt115 => (if 65537 ≤ 281474976710656 then ((tok_Tokens.f (strOfNums (List.replicate 65537 0))).bind fun bt122 => ((stolelaw0_SameTokens.f bt115.1 (([(⟨0, (⟨#[]⟩ : ByteArray), (⟨#[97]⟩ : ByteArray), ([] : List (S47)), false⟩ : S30), (⟨1, (⟨#[112]⟩ : ByteArray), (⟨#[]⟩ : ByteArray), (([(⟨(⟨#[120]⟩ : ByteArray), (⟨#[49]⟩ : ByteArray)⟩ : S47), (⟨(⟨#[121]⟩ : ByteArray), (⟨#[]⟩ : ByteArray)⟩ : S47)] : List (S47))), false⟩ : S30), (⟨0, (⟨#[]⟩ : ByteArray), (⟨#[98, 60]⟩ : ByteArray), ([] : List (S47)), false⟩ : S30), (⟨1, (⟨#[98, 114]⟩ : ByteArray), (⟨#[]⟩ : ByteArray), ([] : List (S47)), true⟩ : S30), (⟨2, (⟨#[112]⟩ : ByteArray), (⟨#[]⟩ : ByteArray), ([] : List (S47)), false⟩ : S30), (⟨3, (⟨#[]⟩ : ByteArray), (⟨#[99]⟩ : ByteArray), ([] : List (S47)), false⟩ : S30), (⟨1, (⟨#[116, 105, 116, 108, 101]⟩ : ByteArray), (⟨#[]⟩ : ByteArray), ([] : List (S47)), false⟩ : S30), (⟨0, (⟨#[]⟩ : ByteArray), (⟨#[60, 47, 116, 105, 116]⟩ : ByteArray), ([] : List (S47)), false⟩ : S30), (⟨2, (⟨#[116, 105, 116, 108, 101]⟩ : ByteArray), (⟨#[]⟩ : ByteArray), ([] : List (S47)), false⟩ : S30)] : List (S30)))).bind fun t132 => (if t132 = true then ((stolelaw0_Num.f bt115.2).bind fun t133 => (if t133 = 0 then ((stolelaw0_Num.f bt122.2).bind fun t134 => (if t134 = 500 then ((stolelaw5_at.f k (⟨#[60, 97, 32, 98, 61, 34, 99]⟩ : ByteArray)).bind fun bt135 => (if (bt135.1 == 8 && (bt135.2.1.toList == ([97] : List UInt8) && (!bt135.2.2.1 && (bt135.2.2.2.1.toList == ([98] : List UInt8) && (bt135.2.2.2.2.1.toList == ([] : List UInt8) && (bt135.2.2.2.2.2 == 0)))))) = true then ((stolelaw5_at.f k (⟨#[60, 115, 116, 121, 108, 101, 62, 60, 47, 115, 84]⟩ : ByteArray)).bind fun bt141 => (some (bt141.1 == 22 && (bt141.2.1.toList == ([] : List UInt8) && (!bt141.2.2.1 && (bt141.2.2.2.1.toList == ([] : List UInt8) && (bt141.2.2.2.2.1.toList == ([115, 116, 121, 108, 101] : List UInt8) && (bt141.2.2.2.2.2 == 2)))))))) else (some false))) else (some false))) else (some false))) else (some false)))) else (none))) = some r := h
 clear h
 replace H := Option.bind_eq_some_iff.mp H
 obtain ⟨⟨t115, t116⟩, A10, H⟩ := H
 replace H : (if 65537 ≤ 281474976710656 then ((tok_Tokens.f (strOfNums (List.replicate 65537 0))).bind fun bt122 => ((stolelaw0_SameTokens.f t115 (([(⟨0, (⟨#[]⟩ : ByteArray), (⟨#[97]⟩ : ByteArray), ([] : List (S47)), false⟩ : S30), (⟨1, (⟨#[112]⟩ : ByteArray), (⟨#[]⟩ : ByteArray), (([(⟨(⟨#[120]⟩ : ByteArray), (⟨#[49]⟩ : ByteArray)⟩ : S47), (⟨(⟨#[121]⟩ : ByteArray), (⟨#[]⟩ : ByteArray)⟩ : S47)] : List (S47))), false⟩ : S30), (⟨0, (⟨#[]⟩ : ByteArray), (⟨#[98, 60]⟩ : ByteArray), ([] : List (S47)), false⟩ : S30), (⟨1, (⟨#[98, 114]⟩ : ByteArray), (⟨#[]⟩ : ByteArray), ([] : List (S47)), true⟩ : S30), (⟨2, (⟨#[112]⟩ : ByteArray), (⟨#[]⟩ : ByteArray), ([] : List (S47)), false⟩ : S30), (⟨3, (⟨#[]⟩ : ByteArray), (⟨#[99]⟩ : ByteArray), ([] : List (S47)), false⟩ : S30), (⟨1, (⟨#[116, 105, 116, 108, 101]⟩ : ByteArray), (⟨#[]⟩ : ByteArray), ([] : List (S47)), false⟩ : S30), (⟨0, (⟨#[]⟩ : ByteArray), (⟨#[60, 47, 116, 105, 116]⟩ : ByteArray), ([] : List (S47)), false⟩ : S30), (⟨2, (⟨#[116, 105, 116, 108, 101]⟩ : ByteArray), (⟨#[]⟩ : ByteArray), ([] : List (S47)), false⟩ : S30)] : List (S30)))).bind fun t132 => (if t132 = true then ((stolelaw0_Num.f t116).bind fun t133 => (if t133 = 0 then ((stolelaw0_Num.f bt122.2).bind fun t134 => (if t134 = 500 then ((stolelaw5_at.f k (⟨#[60, 97, 32, 98, 61, 34, 99]⟩ : ByteArray)).bind fun bt135 => (if (bt135.1 == 8 && (bt135.2.1.toList == ([97] : List UInt8) && (!bt135.2.2.1 && (bt135.2.2.2.1.toList == ([98] : List UInt8) && (bt135.2.2.2.2.1.toList == ([] : List UInt8) && (bt135.2.2.2.2.2 == 0)))))) = true then ((stolelaw5_at.f k (⟨#[60, 115, 116, 121, 108, 101, 62, 60, 47, 115, 84]⟩ : ByteArray)).bind fun bt141 => (some (bt141.1 == 22 && (bt141.2.1.toList == ([] : List UInt8) && (!bt141.2.2.1 && (bt141.2.2.2.1.toList == ([] : List UInt8) && (bt141.2.2.2.2.1.toList == ([115, 116, 121, 108, 101] : List UInt8) && (bt141.2.2.2.2.2 == 2)))))))) else (some false))) else (some false))) else (some false))) else (some false)))) else (none)) = some r := H
 have A1 := Aside0.mk A10
 clear A10
 by_cases c2 : 65537 ≤ 281474976710656
 ·rw [if_pos c2] at H
  have c2b0 := eq_true c2
  have c2b1 : decide (65537 ≤ 281474976710656) = true := decide_eq_true c2
  clear c2
  obtain ⟨y119, hy119⟩ : ∃ y_ : List Int, y_ = (List.replicate 65537 0) := ⟨_, rfl⟩
  replace H : ((tok_Tokens.f (strOfNums y119)).bind fun bt122 => ((stolelaw0_SameTokens.f t115 (([(⟨0, (⟨#[]⟩ : ByteArray), (⟨#[97]⟩ : ByteArray), ([] : List (S47)), false⟩ : S30), (⟨1, (⟨#[112]⟩ : ByteArray), (⟨#[]⟩ : ByteArray), (([(⟨(⟨#[120]⟩ : ByteArray), (⟨#[49]⟩ : ByteArray)⟩ : S47), (⟨(⟨#[121]⟩ : ByteArray), (⟨#[]⟩ : ByteArray)⟩ : S47)] : List (S47))), false⟩ : S30), (⟨0, (⟨#[]⟩ : ByteArray), (⟨#[98, 60]⟩ : ByteArray), ([] : List (S47)), false⟩ : S30), (⟨1, (⟨#[98, 114]⟩ : ByteArray), (⟨#[]⟩ : ByteArray), ([] : List (S47)), true⟩ : S30), (⟨2, (⟨#[112]⟩ : ByteArray), (⟨#[]⟩ : ByteArray), ([] : List (S47)), false⟩ : S30), (⟨3, (⟨#[]⟩ : ByteArray), (⟨#[99]⟩ : ByteArray), ([] : List (S47)), false⟩ : S30), (⟨1, (⟨#[116, 105, 116, 108, 101]⟩ : ByteArray), (⟨#[]⟩ : ByteArray), ([] : List (S47)), false⟩ : S30), (⟨0, (⟨#[]⟩ : ByteArray), (⟨#[60, 47, 116, 105, 116]⟩ : ByteArray), ([] : List (S47)), false⟩ : S30), (⟨2, (⟨#[116, 105, 116, 108, 101]⟩ : ByteArray), (⟨#[]⟩ : ByteArray), ([] : List (S47)), false⟩ : S30)] : List (S30)))).bind fun t132 => (if t132 = true then ((stolelaw0_Num.f t116).bind fun t133 => (if t133 = 0 then ((stolelaw0_Num.f bt122.2).bind fun t134 => (if t134 = 500 then ((stolelaw5_at.f k (⟨#[60, 97, 32, 98, 61, 34, 99]⟩ : ByteArray)).bind fun bt135 => (if (bt135.1 == 8 && (bt135.2.1.toList == ([97] : List UInt8) && (!bt135.2.2.1 && (bt135.2.2.2.1.toList == ([98] : List UInt8) && (bt135.2.2.2.2.1.toList == ([] : List UInt8) && (bt135.2.2.2.2.2 == 0)))))) = true then ((stolelaw5_at.f k (⟨#[60, 115, 116, 121, 108, 101, 62, 60, 47, 115, 84]⟩ : ByteArray)).bind fun bt141 => (some (bt141.1 == 22 && (bt141.2.1.toList == ([] : List UInt8) && (!bt141.2.2.1 && (bt141.2.2.2.1.toList == ([] : List UInt8) && (bt141.2.2.2.2.1.toList == ([115, 116, 121, 108, 101] : List UInt8) && (bt141.2.2.2.2.2 == 2)))))))) else (some false))) else (some false))) else (some false))) else (some false)))) = some r := by first | (rw [hy119]; with_reducible exact H) | (have H2_ := (Option.bind_some _ _).symm.trans H; rw [hy119]; with_reducible exact H2_) | (have H2_ := (Option.bind_some _ _).symm.trans H; with_reducible exact H2_) | with_reducible exact H | (rw [hy119]; exact H) | exact H
  have Ny119 := Aside0.mk hy119
  clear hy119
  replace H := Option.bind_eq_some_iff.mp H
  obtain ⟨⟨t122, t123⟩, A30, H⟩ := H
  replace H : ((stolelaw0_SameTokens.f t115 (([(⟨0, (⟨#[]⟩ : ByteArray), (⟨#[97]⟩ : ByteArray), ([] : List (S47)), false⟩ : S30), (⟨1, (⟨#[112]⟩ : ByteArray), (⟨#[]⟩ : ByteArray), (([(⟨(⟨#[120]⟩ : ByteArray), (⟨#[49]⟩ : ByteArray)⟩ : S47), (⟨(⟨#[121]⟩ : ByteArray), (⟨#[]⟩ : ByteArray)⟩ : S47)] : List (S47))), false⟩ : S30), (⟨0, (⟨#[]⟩ : ByteArray), (⟨#[98, 60]⟩ : ByteArray), ([] : List (S47)), false⟩ : S30), (⟨1, (⟨#[98, 114]⟩ : ByteArray), (⟨#[]⟩ : ByteArray), ([] : List (S47)), true⟩ : S30), (⟨2, (⟨#[112]⟩ : ByteArray), (⟨#[]⟩ : ByteArray), ([] : List (S47)), false⟩ : S30), (⟨3, (⟨#[]⟩ : ByteArray), (⟨#[99]⟩ : ByteArray), ([] : List (S47)), false⟩ : S30), (⟨1, (⟨#[116, 105, 116, 108, 101]⟩ : ByteArray), (⟨#[]⟩ : ByteArray), ([] : List (S47)), false⟩ : S30), (⟨0, (⟨#[]⟩ : ByteArray), (⟨#[60, 47, 116, 105, 116]⟩ : ByteArray), ([] : List (S47)), false⟩ : S30), (⟨2, (⟨#[116, 105, 116, 108, 101]⟩ : ByteArray), (⟨#[]⟩ : ByteArray), ([] : List (S47)), false⟩ : S30)] : List (S30)))).bind fun t132 => (if t132 = true then ((stolelaw0_Num.f t116).bind fun t133 => (if t133 = 0 then ((stolelaw0_Num.f t123).bind fun t134 => (if t134 = 500 then ((stolelaw5_at.f k (⟨#[60, 97, 32, 98, 61, 34, 99]⟩ : ByteArray)).bind fun bt135 => (if (bt135.1 == 8 && (bt135.2.1.toList == ([97] : List UInt8) && (!bt135.2.2.1 && (bt135.2.2.2.1.toList == ([98] : List UInt8) && (bt135.2.2.2.2.1.toList == ([] : List UInt8) && (bt135.2.2.2.2.2 == 0)))))) = true then ((stolelaw5_at.f k (⟨#[60, 115, 116, 121, 108, 101, 62, 60, 47, 115, 84]⟩ : ByteArray)).bind fun bt141 => (some (bt141.1 == 22 && (bt141.2.1.toList == ([] : List UInt8) && (!bt141.2.2.1 && (bt141.2.2.2.1.toList == ([] : List UInt8) && (bt141.2.2.2.2.1.toList == ([115, 116, 121, 108, 101] : List UInt8) && (bt141.2.2.2.2.2 == 2)))))))) else (some false))) else (some false))) else (some false))) else (some false))) = some r := H
  have A3 := Aside0.mk A30
  clear A30
  obtain ⟨y126, hy126⟩ : ∃ y_ : List (S47), y_ = (([(⟨(⟨#[120]⟩ : ByteArray), (⟨#[49]⟩ : ByteArray)⟩ : S47), (⟨(⟨#[121]⟩ : ByteArray), (⟨#[]⟩ : ByteArray)⟩ : S47)] : List (S47))) := ⟨_, rfl⟩
  replace H : ((stolelaw0_SameTokens.f t115 (([(⟨0, (⟨#[]⟩ : ByteArray), (⟨#[97]⟩ : ByteArray), ([] : List (S47)), false⟩ : S30), (⟨1, (⟨#[112]⟩ : ByteArray), (⟨#[]⟩ : ByteArray), y126, false⟩ : S30), (⟨0, (⟨#[]⟩ : ByteArray), (⟨#[98, 60]⟩ : ByteArray), ([] : List (S47)), false⟩ : S30), (⟨1, (⟨#[98, 114]⟩ : ByteArray), (⟨#[]⟩ : ByteArray), ([] : List (S47)), true⟩ : S30), (⟨2, (⟨#[112]⟩ : ByteArray), (⟨#[]⟩ : ByteArray), ([] : List (S47)), false⟩ : S30), (⟨3, (⟨#[]⟩ : ByteArray), (⟨#[99]⟩ : ByteArray), ([] : List (S47)), false⟩ : S30), (⟨1, (⟨#[116, 105, 116, 108, 101]⟩ : ByteArray), (⟨#[]⟩ : ByteArray), ([] : List (S47)), false⟩ : S30), (⟨0, (⟨#[]⟩ : ByteArray), (⟨#[60, 47, 116, 105, 116]⟩ : ByteArray), ([] : List (S47)), false⟩ : S30), (⟨2, (⟨#[116, 105, 116, 108, 101]⟩ : ByteArray), (⟨#[]⟩ : ByteArray), ([] : List (S47)), false⟩ : S30)] : List (S30)))).bind fun t132 => (if t132 = true then ((stolelaw0_Num.f t116).bind fun t133 => (if t133 = 0 then ((stolelaw0_Num.f t123).bind fun t134 => (if t134 = 500 then ((stolelaw5_at.f k (⟨#[60, 97, 32, 98, 61, 34, 99]⟩ : ByteArray)).bind fun bt135 => (if (bt135.1 == 8 && (bt135.2.1.toList == ([97] : List UInt8) && (!bt135.2.2.1 && (bt135.2.2.2.1.toList == ([98] : List UInt8) && (bt135.2.2.2.2.1.toList == ([] : List UInt8) && (bt135.2.2.2.2.2 == 0)))))) = true then ((stolelaw5_at.f k (⟨#[60, 115, 116, 121, 108, 101, 62, 60, 47, 115, 84]⟩ : ByteArray)).bind fun bt141 => (some (bt141.1 == 22 && (bt141.2.1.toList == ([] : List UInt8) && (!bt141.2.2.1 && (bt141.2.2.2.1.toList == ([] : List UInt8) && (bt141.2.2.2.2.1.toList == ([115, 116, 121, 108, 101] : List UInt8) && (bt141.2.2.2.2.2 == 2)))))))) else (some false))) else (some false))) else (some false))) else (some false))) = some r := by first | (rw [hy126]; with_reducible exact H) | (have H2_ := (Option.bind_some _ _).symm.trans H; rw [hy126]; with_reducible exact H2_) | (have H2_ := (Option.bind_some _ _).symm.trans H; with_reducible exact H2_) | with_reducible exact H | (rw [hy126]; exact H) | exact H
  have Ny126 := Aside0.mk hy126
  clear hy126
  obtain ⟨y129, hy129⟩ : ∃ y_ : List (S30), y_ = (([(⟨0, (⟨#[]⟩ : ByteArray), (⟨#[97]⟩ : ByteArray), ([] : List (S47)), false⟩ : S30), (⟨1, (⟨#[112]⟩ : ByteArray), (⟨#[]⟩ : ByteArray), y126, false⟩ : S30), (⟨0, (⟨#[]⟩ : ByteArray), (⟨#[98, 60]⟩ : ByteArray), ([] : List (S47)), false⟩ : S30), (⟨1, (⟨#[98, 114]⟩ : ByteArray), (⟨#[]⟩ : ByteArray), ([] : List (S47)), true⟩ : S30), (⟨2, (⟨#[112]⟩ : ByteArray), (⟨#[]⟩ : ByteArray), ([] : List (S47)), false⟩ : S30), (⟨3, (⟨#[]⟩ : ByteArray), (⟨#[99]⟩ : ByteArray), ([] : List (S47)), false⟩ : S30), (⟨1, (⟨#[116, 105, 116, 108, 101]⟩ : ByteArray), (⟨#[]⟩ : ByteArray), ([] : List (S47)), false⟩ : S30), (⟨0, (⟨#[]⟩ : ByteArray), (⟨#[60, 47, 116, 105, 116]⟩ : ByteArray), ([] : List (S47)), false⟩ : S30), (⟨2, (⟨#[116, 105, 116, 108, 101]⟩ : ByteArray), (⟨#[]⟩ : ByteArray), ([] : List (S47)), false⟩ : S30)] : List (S30))) := ⟨_, rfl⟩
  replace H : ((stolelaw0_SameTokens.f t115 y129).bind fun t132 => (if t132 = true then ((stolelaw0_Num.f t116).bind fun t133 => (if t133 = 0 then ((stolelaw0_Num.f t123).bind fun t134 => (if t134 = 500 then ((stolelaw5_at.f k (⟨#[60, 97, 32, 98, 61, 34, 99]⟩ : ByteArray)).bind fun bt135 => (if (bt135.1 == 8 && (bt135.2.1.toList == ([97] : List UInt8) && (!bt135.2.2.1 && (bt135.2.2.2.1.toList == ([98] : List UInt8) && (bt135.2.2.2.2.1.toList == ([] : List UInt8) && (bt135.2.2.2.2.2 == 0)))))) = true then ((stolelaw5_at.f k (⟨#[60, 115, 116, 121, 108, 101, 62, 60, 47, 115, 84]⟩ : ByteArray)).bind fun bt141 => (some (bt141.1 == 22 && (bt141.2.1.toList == ([] : List UInt8) && (!bt141.2.2.1 && (bt141.2.2.2.1.toList == ([] : List UInt8) && (bt141.2.2.2.2.1.toList == ([115, 116, 121, 108, 101] : List UInt8) && (bt141.2.2.2.2.2 == 2)))))))) else (some false))) else (some false))) else (some false))) else (some false))) = some r := by first | (rw [hy129]; with_reducible exact H) | (have H2_ := (Option.bind_some _ _).symm.trans H; rw [hy129]; with_reducible exact H2_) | (have H2_ := (Option.bind_some _ _).symm.trans H; with_reducible exact H2_) | with_reducible exact H | (rw [hy129]; exact H) | exact H
  have Ny129 := Aside0.mk hy129
  clear hy129
  replace H := Option.bind_eq_some_iff.mp H
  obtain ⟨t132, A40, H⟩ := H
  replace H : (if t132 = true then ((stolelaw0_Num.f t116).bind fun t133 => (if t133 = 0 then ((stolelaw0_Num.f t123).bind fun t134 => (if t134 = 500 then ((stolelaw5_at.f k (⟨#[60, 97, 32, 98, 61, 34, 99]⟩ : ByteArray)).bind fun bt135 => (if (bt135.1 == 8 && (bt135.2.1.toList == ([97] : List UInt8) && (!bt135.2.2.1 && (bt135.2.2.2.1.toList == ([98] : List UInt8) && (bt135.2.2.2.2.1.toList == ([] : List UInt8) && (bt135.2.2.2.2.2 == 0)))))) = true then ((stolelaw5_at.f k (⟨#[60, 115, 116, 121, 108, 101, 62, 60, 47, 115, 84]⟩ : ByteArray)).bind fun bt141 => (some (bt141.1 == 22 && (bt141.2.1.toList == ([] : List UInt8) && (!bt141.2.2.1 && (bt141.2.2.2.1.toList == ([] : List UInt8) && (bt141.2.2.2.2.1.toList == ([115, 116, 121, 108, 101] : List UInt8) && (bt141.2.2.2.2.2 == 2)))))))) else (some false))) else (some false))) else (some false))) else (some false)) = some r := H
  have A4 := Aside0.mk A40
  clear A40
  by_cases c5 : t132 = true
  ·subst c5
   have H1 : ((stolelaw0_Num.f t116).bind fun t133 => (if t133 = 0 then ((stolelaw0_Num.f t123).bind fun t134 => (if t134 = 500 then ((stolelaw5_at.f k (⟨#[60, 97, 32, 98, 61, 34, 99]⟩ : ByteArray)).bind fun bt135 => (if (bt135.1 == 8 && (bt135.2.1.toList == ([97] : List UInt8) && (!bt135.2.2.1 && (bt135.2.2.2.1.toList == ([98] : List UInt8) && (bt135.2.2.2.2.1.toList == ([] : List UInt8) && (bt135.2.2.2.2.2 == 0)))))) = true then ((stolelaw5_at.f k (⟨#[60, 115, 116, 121, 108, 101, 62, 60, 47, 115, 84]⟩ : ByteArray)).bind fun bt141 => (some (bt141.1 == 22 && (bt141.2.1.toList == ([] : List UInt8) && (!bt141.2.2.1 && (bt141.2.2.2.1.toList == ([] : List UInt8) && (bt141.2.2.2.2.1.toList == ([115, 116, 121, 108, 101] : List UInt8) && (bt141.2.2.2.2.2 == 2)))))))) else (some false))) else (some false))) else (some false))) = some r := by rw [if_pos rfl] at H; exact H
   clear H
   have H := H1
   clear H1
   replace H := Option.bind_eq_some_iff.mp H
   obtain ⟨t133, A60, H⟩ := H
   replace H : (if t133 = 0 then ((stolelaw0_Num.f t123).bind fun t134 => (if t134 = 500 then ((stolelaw5_at.f k (⟨#[60, 97, 32, 98, 61, 34, 99]⟩ : ByteArray)).bind fun bt135 => (if (bt135.1 == 8 && (bt135.2.1.toList == ([97] : List UInt8) && (!bt135.2.2.1 && (bt135.2.2.2.1.toList == ([98] : List UInt8) && (bt135.2.2.2.2.1.toList == ([] : List UInt8) && (bt135.2.2.2.2.2 == 0)))))) = true then ((stolelaw5_at.f k (⟨#[60, 115, 116, 121, 108, 101, 62, 60, 47, 115, 84]⟩ : ByteArray)).bind fun bt141 => (some (bt141.1 == 22 && (bt141.2.1.toList == ([] : List UInt8) && (!bt141.2.2.1 && (bt141.2.2.2.1.toList == ([] : List UInt8) && (bt141.2.2.2.2.1.toList == ([115, 116, 121, 108, 101] : List UInt8) && (bt141.2.2.2.2.2 == 2)))))))) else (some false))) else (some false))) else (some false)) = some r := H
   have A6 := Aside0.mk A60
   clear A60
   by_cases c7 : t133 = 0
   ·rw [if_pos c7] at H
    have c7b0 : (t133 == 0) = true := beq_iff_eq.mpr c7
    have c7b1 : (t133 != 0) = false := bne_eq_false_iff_eq.mpr c7
    clear c7
    replace H := Option.bind_eq_some_iff.mp H
    obtain ⟨t134, A80, H⟩ := H
    replace H : (if t134 = 500 then ((stolelaw5_at.f k (⟨#[60, 97, 32, 98, 61, 34, 99]⟩ : ByteArray)).bind fun bt135 => (if (bt135.1 == 8 && (bt135.2.1.toList == ([97] : List UInt8) && (!bt135.2.2.1 && (bt135.2.2.2.1.toList == ([98] : List UInt8) && (bt135.2.2.2.2.1.toList == ([] : List UInt8) && (bt135.2.2.2.2.2 == 0)))))) = true then ((stolelaw5_at.f k (⟨#[60, 115, 116, 121, 108, 101, 62, 60, 47, 115, 84]⟩ : ByteArray)).bind fun bt141 => (some (bt141.1 == 22 && (bt141.2.1.toList == ([] : List UInt8) && (!bt141.2.2.1 && (bt141.2.2.2.1.toList == ([] : List UInt8) && (bt141.2.2.2.2.1.toList == ([115, 116, 121, 108, 101] : List UInt8) && (bt141.2.2.2.2.2 == 2)))))))) else (some false))) else (some false)) = some r := H
    have A8 := Aside0.mk A80
    clear A80
    by_cases c9 : t134 = 500
    ·rw [if_pos c9] at H
     have c9b0 : (t134 == 500) = true := beq_iff_eq.mpr c9
     have c9b1 : (t134 != 500) = false := bne_eq_false_iff_eq.mpr c9
     clear c9
     replace H := Option.bind_eq_some_iff.mp H
     obtain ⟨⟨t135, t136, t137, t138, t139, t140⟩, A100, H⟩ := H
     replace H : (if (t135 == 8 && (t136.toList == ([97] : List UInt8) && (!t137 && (t138.toList == ([98] : List UInt8) && (t139.toList == ([] : List UInt8) && (t140 == 0)))))) = true then ((stolelaw5_at.f k (⟨#[60, 115, 116, 121, 108, 101, 62, 60, 47, 115, 84]⟩ : ByteArray)).bind fun bt141 => (some (bt141.1 == 22 && (bt141.2.1.toList == ([] : List UInt8) && (!bt141.2.2.1 && (bt141.2.2.2.1.toList == ([] : List UInt8) && (bt141.2.2.2.2.1.toList == ([115, 116, 121, 108, 101] : List UInt8) && (bt141.2.2.2.2.2 == 2)))))))) else (some false)) = some r := H
     have A10 := Aside0.mk A100
     clear A100
     by_cases c11 : (t135 == 8 && (t136.toList == ([97] : List UInt8) && (!t137 && (t138.toList == ([98] : List UInt8) && (t139.toList == ([] : List UInt8) && (t140 == 0)))))) = true
     ·rw [if_pos c11] at H
      have c11b0 : (t135 == 8 && (t136.toList == ([97] : List UInt8) && (!t137 && (t138.toList == ([98] : List UInt8) && (t139.toList == ([] : List UInt8) && (t140 == 0)))))) = true := c11
      (try (have c11b4 : (t135 == 8 && (t136.toList == ([97] : List UInt8) && (!t137 && (t138.toList == ([98] : List UInt8) && (t139.toList.isEmpty && (t140 == 0)))))) = true := by simpa only [nil_beq] using c11b0))
      (try (have c11b1 : decide (t135 = 8 && (t136.toList == ([97] : List UInt8) && (!t137 && (t138.toList == ([98] : List UInt8) && (t139.toList == ([] : List UInt8) && (t140 == 0)))))) = true := by simpa using c11))
      (try (have c11b2 : (t135 == 8 && (t136.toList == ([97] : List UInt8) && (!t137 && (t138.toList == ([98] : List UInt8) && (t139.toList == ([] : List UInt8) && (t140 == 0)))))) = true := by simpa using c11))
      clear c11
      replace H := Option.bind_eq_some_iff.mp H
      obtain ⟨⟨t141, t142, t143, t144, t145, t146⟩, A120, H⟩ := H
      replace H : (some (t141 == 22 && (t142.toList == ([] : List UInt8) && (!t143 && (t144.toList == ([] : List UInt8) && (t145.toList == ([115, 116, 121, 108, 101] : List UInt8) && (t146 == 2))))))) = some r := H
      have A12 := Aside0.mk A120
      clear A120
      obtain rfl := Option.some.inj H
      go_enter Tryd.func10, Tryd.ntmps10
      go_wp2_with (first | ((with_reducible refine gate_callee (f := 11) rfl ?_); refine goesL_ (some 7) rfl rfl Tryd.func11 (by kernel_rfl) rfl #[.string (⟨#[97, 60, 80, 32, 120, 61, 39, 49, 39, 32, 88, 61, 50, 32, 121, 62, 98, 38, 108, 116, 59, 60, 98, 114, 47, 62, 60, 47, 112, 62, 60, 33, 45, 45, 99, 45, 45, 62, 60, 116, 105, 116, 108, 101, 62, 60, 47, 116, 105, 116, 60, 47, 84, 73, 84, 76, 69, 62]⟩ : ByteArray)] rfl (by (try simp only [List.map_toArray, List.map_cons, List.map_nil]); first | done | rfl | (simp only [List.length_drop, List.length_take]; rfl)) ?_; (with_reducible refine (tok_Tokens.calls (⟨#[97, 60, 80, 32, 120, 61, 39, 49, 39, 32, 88, 61, 50, 32, 121, 62, 98, 38, 108, 116, 59, 60, 98, 114, 47, 62, 60, 47, 112, 62, 60, 33, 45, 45, 99, 45, 45, 62, 60, 116, 105, 116, 108, 101, 62, 60, 47, 116, 105, 116, 60, 47, 84, 73, 84, 76, 69, 62]⟩ : ByteArray) t115 t116 _ (tabs_below HT.out (by repeat (first | (with_reducible first | exact HB.out | apply below_alloc | apply pw_below_drewN | apply below_drew1) | exact HB.out))) A1.out).mono ?_); rintro e w13 ⟨v117, rfl, ho0, hb⟩; refine ⟨_, rfl, ?_⟩; have n0_ := Aside0.mk (Kd.N_lower (Kd.N_mono (ok' := fun k_ => True) (Kd.S_N (Kd.S_bound ho0)) (fun k_ hk_ => trivial)) (below_size (by repeat (first | (with_reducible first | exact HB.out | apply below_alloc | apply pw_below_drewN | apply below_drew1) | exact HB.out)))); have n1_ := Aside0.mk (below_step (by repeat (first | (with_reducible first | exact HB.out | apply below_alloc | apply pw_below_drewN | apply below_drew1) | exact HB.out)) hb); clear HB; have HO118 := n0_; have HB := n1_; clear n0_ n1_; (try clear hb); (try clear hb2); (try clear hk); (try clear hi); (try clear ho0)) | ((with_reducible refine gate_dst (N := 11) rfl ?_); refine Kd.R_make (Kd.int .u8) _ 5 rfl (N := 11) rfl 42 _ _ rfl 65537 rfl rfl Tryd.underlying42 (.int .u8 0) 1 info5 rfl (by decide) (by omega) 0 (ok := fun _ => True) (okp := fun _ => True) rfl (fun _ hk => hk) trivial (by omega) (by omega) (Below.refl _ _) (Nat.le_refl _) ?_; intro v120 w14 ho15 hb hg_ hnew_; clear hg_ hnew_; (first | rw [← Ny119.out] at ho15 | (simp only [Int.reduceToNat] at ho15; rw [← Ny119.out] at ho15)); have n0_ := Aside0.mk (Kd.N_elder' (by (with_reducible repeat (first | apply Kd.N_alloc | apply Kd.N_drewN | apply Kd.N_drew)); exact HO118.out) (Kd.R_base ho15) hb); have n1_ := Aside0.mk (Kd.R_lower ho15 (below_size (by repeat (first | (with_reducible first | exact HB.out | apply below_alloc | apply pw_below_drewN | apply below_drew1) | exact HB.out)))); have n2_ := Aside0.mk (below_step (by repeat (first | (with_reducible first | exact HB.out | apply below_alloc | apply pw_below_drewN | apply below_drew1) | exact HB.out)) hb); clear HO118; clear HB; have HO118 := n0_; have HO121 := n1_; have HB := n2_; clear n0_ n1_ n2_; clear hb ho15; have hcv16 := own_string (P := Tryd.prog) Tryd.underlying42 Tryd.underlying5 Tryd.underlying9 (Kd.own_of_R HO121.out)) | ((with_reducible refine gate_callee (f := 11) rfl ?_); refine goesL_ (some 13) rfl rfl Tryd.func11 (by kernel_rfl) rfl #[.string (strOfNums y119)] rfl (by (try simp only [List.map_toArray, List.map_cons, List.map_nil]); first | done | rfl | (simp only [List.length_drop, List.length_take]; rfl)) ?_; (with_reducible refine (tok_Tokens.calls (strOfNums y119) t122 t123 _ (tabs_below HT.out (by repeat (first | (with_reducible first | exact HB.out | apply below_alloc | apply pw_below_drewN | apply below_drew1) | exact HB.out))) A3.out).mono ?_); rintro e w17 ⟨v124, rfl, ho0, hb⟩; refine ⟨_, rfl, ?_⟩; have n0_ := Aside0.mk (Kd.N_elder' (by (with_reducible repeat (first | apply Kd.N_alloc | apply Kd.N_drewN | apply Kd.N_drew)); exact HO118.out) (Kd.S_base ho0) hb); have n1_ := Aside0.mk (Kd.R_below (by (with_reducible repeat (first | apply Kd.R_alloc | apply Kd.R_drewN | apply Kd.R_drew)); exact HO121.out) hb); have n2_ := Aside0.mk (Kd.N_lower (Kd.N_mono (ok' := fun k_ => some k_ ≠ (v117 : Value).ownBlock ∧ some k_ ≠ (v120 : Value).ownBlock) (Kd.S_N (Kd.S_bound ho0)) (fun k_ hk_ => ⟨(Kd.fresh' (Kd.N_lt (by (with_reducible repeat (first | apply Kd.N_alloc | apply Kd.N_drewN | apply Kd.N_drew)); exact HO118.out)) k_ hk_.2.1), (Kd.fresh' (Kd.R_lt (by (with_reducible repeat (first | apply Kd.R_alloc | apply Kd.R_drewN | apply Kd.R_drew)); exact HO121.out)) k_ hk_.2.1)⟩)) (below_size (by repeat (first | (with_reducible first | exact HB.out | apply below_alloc | apply pw_below_drewN | apply below_drew1) | exact HB.out)))); have n3_ := Aside0.mk (below_step (by repeat (first | (with_reducible first | exact HB.out | apply below_alloc | apply pw_below_drewN | apply below_drew1) | exact HB.out)) hb); clear HO118; clear HO121; clear HB; have HO118 := n0_; have HO121 := n1_; have HO125 := n2_; have HB := n3_; clear n0_ n1_ n2_ n3_; (try clear hb); (try clear hb2); (try clear hk); (try clear hi); (try clear ho0)) | ((with_reducible refine gate_dst (N := 19) rfl ?_); refine Kd.R_lit k47 _ 47 ?hg (N := 19) ?hd (xs := ([(⟨(⟨#[120]⟩ : ByteArray), (⟨#[49]⟩ : ByteArray)⟩ : S47), (⟨(⟨#[121]⟩ : ByteArray), (⟨#[]⟩ : ByteArray)⟩ : S47)] : List (S47))) (inner := [.string (⟨#[120]⟩ : ByteArray), .string (⟨#[49]⟩ : ByteArray), .string (⟨#[121]⟩ : ByteArray), .string (⟨#[]⟩ : ByteArray)]) (ok := fun _ => True) (okp := fun _ => True) ?hr ?hp (fun _ hk => hk) trivial (Below.refl _ _) (Nat.le_refl _) (by simp) ?_; (case hd => rfl); (case hg => rfl); (case hr => first | (go_simp; done) | (go_simp; rfl)); (case hp => exact (Reps.c2 (show Kd.M k47 _ _ _ (⟨(⟨#[120]⟩ : ByteArray), (⟨#[49]⟩ : ByteArray)⟩ : S47) [.string (⟨#[120]⟩ : ByteArray), .string (⟨#[49]⟩ : ByteArray)] from (k47_mkM _ _ _ (⟨(⟨#[120]⟩ : ByteArray), (⟨#[49]⟩ : ByteArray)⟩ : S47) )) (Reps.c2 (show Kd.M k47 _ _ _ (⟨(⟨#[121]⟩ : ByteArray), (⟨#[]⟩ : ByteArray)⟩ : S47) [.string (⟨#[121]⟩ : ByteArray), .string (⟨#[]⟩ : ByteArray)] from (k47_mkM _ _ _ (⟨(⟨#[121]⟩ : ByteArray), (⟨#[]⟩ : ByteArray)⟩ : S47) )) (Reps.none _ _)))); intro v127 w18 ho19 hb hg_ hnew_; clear hg_ hnew_; (first | rw [← Ny126.out] at ho19 | (simp only [Int.reduceToNat] at ho19; rw [← Ny126.out] at ho19)); have n0_ := Aside0.mk (Kd.N_elder' (by (with_reducible repeat (first | apply Kd.N_alloc | apply Kd.N_drewN | apply Kd.N_drew)); exact HO118.out) (Kd.R_base ho19) hb); have n1_ := Aside0.mk (Kd.R_below (by (with_reducible repeat (first | apply Kd.R_alloc | apply Kd.R_drewN | apply Kd.R_drew)); exact HO121.out) hb); have n2_ := Aside0.mk (Kd.N_elder' (by (with_reducible repeat (first | apply Kd.N_alloc | apply Kd.N_drewN | apply Kd.N_drew)); exact HO125.out) (Kd.R_base ho19) hb); have n3_ := Aside0.mk (Kd.R_lower ho19 (below_size (by repeat (first | (with_reducible first | exact HB.out | apply below_alloc | apply pw_below_drewN | apply below_drew1) | exact HB.out)))); have n4_ := Aside0.mk (below_step (by repeat (first | (with_reducible first | exact HB.out | apply below_alloc | apply pw_below_drewN | apply below_drew1) | exact HB.out)) hb); clear HO118; clear HO121; clear HO125; clear HB; have HO118 := n0_; have HO121 := n1_; have HO125 := n2_; have HO128 := n3_; have HB := n4_; clear n0_ n1_ n2_ n3_ n4_; clear hb ho19; obtain ⟨Ao20, co20, eo20⟩ := Kd.R_slice HO128.out; subst eo20) | ((with_reducible refine gate_dst (N := 28) rfl ?_); refine Kd.N_lit k30 _ 30 ?hg (N' := 28) ?hd (xs := ([(⟨0, (⟨#[]⟩ : ByteArray), (⟨#[97]⟩ : ByteArray), ([] : List (S47)), false⟩ : S30), (⟨1, (⟨#[112]⟩ : ByteArray), (⟨#[]⟩ : ByteArray), y126, false⟩ : S30), (⟨0, (⟨#[]⟩ : ByteArray), (⟨#[98, 60]⟩ : ByteArray), ([] : List (S47)), false⟩ : S30), (⟨1, (⟨#[98, 114]⟩ : ByteArray), (⟨#[]⟩ : ByteArray), ([] : List (S47)), true⟩ : S30), (⟨2, (⟨#[112]⟩ : ByteArray), (⟨#[]⟩ : ByteArray), ([] : List (S47)), false⟩ : S30), (⟨3, (⟨#[]⟩ : ByteArray), (⟨#[99]⟩ : ByteArray), ([] : List (S47)), false⟩ : S30), (⟨1, (⟨#[116, 105, 116, 108, 101]⟩ : ByteArray), (⟨#[]⟩ : ByteArray), ([] : List (S47)), false⟩ : S30), (⟨0, (⟨#[]⟩ : ByteArray), (⟨#[60, 47, 116, 105, 116]⟩ : ByteArray), ([] : List (S47)), false⟩ : S30), (⟨2, (⟨#[116, 105, 116, 108, 101]⟩ : ByteArray), (⟨#[]⟩ : ByteArray), ([] : List (S47)), false⟩ : S30)] : List (S30))) (inner := [.int .i64 0, .string (⟨#[]⟩ : ByteArray), .string (⟨#[97]⟩ : ByteArray), .slice none 0 0, .bool false, .int .i64 1, .string (⟨#[112]⟩ : ByteArray), .string (⟨#[]⟩ : ByteArray), .slice Ao20 y126.length co20, .bool false, .int .i64 0, .string (⟨#[]⟩ : ByteArray), .string (⟨#[98, 60]⟩ : ByteArray), .slice none 0 0, .bool false, .int .i64 1, .string (⟨#[98, 114]⟩ : ByteArray), .string (⟨#[]⟩ : ByteArray), .slice none 0 0, .bool true, .int .i64 2, .string (⟨#[112]⟩ : ByteArray), .string (⟨#[]⟩ : ByteArray), .slice none 0 0, .bool false, .int .i64 3, .string (⟨#[]⟩ : ByteArray), .string (⟨#[99]⟩ : ByteArray), .slice none 0 0, .bool false, .int .i64 1, .string (⟨#[116, 105, 116, 108, 101]⟩ : ByteArray), .string (⟨#[]⟩ : ByteArray), .slice none 0 0, .bool false, .int .i64 0, .string (⟨#[]⟩ : ByteArray), .string (⟨#[60, 47, 116, 105, 116]⟩ : ByteArray), .slice none 0 0, .bool false, .int .i64 2, .string (⟨#[116, 105, 116, 108, 101]⟩ : ByteArray), .string (⟨#[]⟩ : ByteArray), .slice none 0 0, .bool false]) (ok := (fun k_ => some k_ ≠ (v117 : Value).ownBlock ∧ some k_ ≠ (v120 : Value).ownBlock ∧ some k_ ≠ (v124 : Value).ownBlock)) (okp := (fun k_ => some k_ ≠ (v117 : Value).ownBlock ∧ some k_ ≠ (v120 : Value).ownBlock ∧ some k_ ≠ (v124 : Value).ownBlock)) ?hr ?hp (fun _ hk => hk) ((show ∀ k_, w18.heap.size ≤ k_ → (fun k_ => some k_ ≠ (v117 : Value).ownBlock ∧ some k_ ≠ (v120 : Value).ownBlock ∧ some k_ ≠ (v124 : Value).ownBlock) k_ from fun k_ hk => ⟨Kd.fresh' (Kd.N_lt (by (with_reducible repeat (first | apply Kd.N_alloc | apply Kd.N_drewN | apply Kd.N_drew)); exact HO118.out)) k_ hk, Kd.fresh' (Kd.R_lt (by (with_reducible repeat (first | apply Kd.R_alloc | apply Kd.R_drewN | apply Kd.R_drew)); exact HO121.out)) k_ hk, Kd.fresh' (Kd.N_lt (by (with_reducible repeat (first | apply Kd.N_alloc | apply Kd.N_drewN | apply Kd.N_drew)); exact HO125.out)) k_ hk⟩) _ (Nat.le_refl _)) (Below.refl _ _) (Nat.le_refl _) (by simp) ?_; (case hd => rfl); (case hg => rfl); (case hr => first | (go_simp; done) | (go_simp; rfl)); (case hp => exact (Reps.c5 (show Kd.FK k30 _ _ (⟨0, (⟨#[]⟩ : ByteArray), (⟨#[97]⟩ : ByteArray), ([] : List (S47)), false⟩ : S30) [.int .i64 0, .string (⟨#[]⟩ : ByteArray), .string (⟨#[97]⟩ : ByteArray), .slice none 0 0, .bool false] from (k30_mkF _ _ (⟨0, (⟨#[]⟩ : ByteArray), (⟨#[97]⟩ : ByteArray), ([] : List (S47)), false⟩ : S30) (Nat.le_refl _) (Kd.F_nil _ _ _))) (Reps.c5 (show Kd.FK k30 _ _ (⟨1, (⟨#[112]⟩ : ByteArray), (⟨#[]⟩ : ByteArray), y126, false⟩ : S30) [.int .i64 1, .string (⟨#[112]⟩ : ByteArray), .string (⟨#[]⟩ : ByteArray), .slice Ao20 y126.length co20, .bool false] from (k30_mkF _ _ (⟨1, (⟨#[112]⟩ : ByteArray), (⟨#[]⟩ : ByteArray), y126, false⟩ : S30) (Kd.R_reads' (Kd.R_mono (ok' := (fun k_ => some k_ ≠ (v117 : Value).ownBlock ∧ some k_ ≠ (v120 : Value).ownBlock ∧ some k_ ≠ (v124 : Value).ownBlock)) (Kd.R_apart' (Kd.R_apart' (Kd.R_apart' (HO128.out) (Kd.N_typed HO118.out) (by decide)) (Kd.R_typed HO121.out) (by decide)) (Kd.N_typed HO125.out) (by decide)) (fun k_ hk => ⟨hk.1.1.2, ⟨hk.1.2, hk.2⟩⟩))).2.1 (Kd.R_F (Kd.R_mono (ok' := (fun k_ => some k_ ≠ (v117 : Value).ownBlock ∧ some k_ ≠ (v120 : Value).ownBlock ∧ some k_ ≠ (v124 : Value).ownBlock)) (Kd.R_apart' (Kd.R_apart' (Kd.R_apart' (HO128.out) (Kd.N_typed HO118.out) (by decide)) (Kd.R_typed HO121.out) (by decide)) (Kd.N_typed HO125.out) (by decide)) (fun k_ hk => ⟨hk.1.1.2, ⟨hk.1.2, hk.2⟩⟩))))) (Reps.c5 (show Kd.FK k30 _ _ (⟨0, (⟨#[]⟩ : ByteArray), (⟨#[98, 60]⟩ : ByteArray), ([] : List (S47)), false⟩ : S30) [.int .i64 0, .string (⟨#[]⟩ : ByteArray), .string (⟨#[98, 60]⟩ : ByteArray), .slice none 0 0, .bool false] from (k30_mkF _ _ (⟨0, (⟨#[]⟩ : ByteArray), (⟨#[98, 60]⟩ : ByteArray), ([] : List (S47)), false⟩ : S30) (Nat.le_refl _) (Kd.F_nil _ _ _))) (Reps.c5 (show Kd.FK k30 _ _ (⟨1, (⟨#[98, 114]⟩ : ByteArray), (⟨#[]⟩ : ByteArray), ([] : List (S47)), true⟩ : S30) [.int .i64 1, .string (⟨#[98, 114]⟩ : ByteArray), .string (⟨#[]⟩ : ByteArray), .slice none 0 0, .bool true] from (k30_mkF _ _ (⟨1, (⟨#[98, 114]⟩ : ByteArray), (⟨#[]⟩ : ByteArray), ([] : List (S47)), true⟩ : S30) (Nat.le_refl _) (Kd.F_nil _ _ _))) (Reps.c5 (show Kd.FK k30 _ _ (⟨2, (⟨#[112]⟩ : ByteArray), (⟨#[]⟩ : ByteArray), ([] : List (S47)), false⟩ : S30) [.int .i64 2, .string (⟨#[112]⟩ : ByteArray), .string (⟨#[]⟩ : ByteArray), .slice none 0 0, .bool false] from (k30_mkF _ _ (⟨2, (⟨#[112]⟩ : ByteArray), (⟨#[]⟩ : ByteArray), ([] : List (S47)), false⟩ : S30) (Nat.le_refl _) (Kd.F_nil _ _ _))) (Reps.c5 (show Kd.FK k30 _ _ (⟨3, (⟨#[]⟩ : ByteArray), (⟨#[99]⟩ : ByteArray), ([] : List (S47)), false⟩ : S30) [.int .i64 3, .string (⟨#[]⟩ : ByteArray), .string (⟨#[99]⟩ : ByteArray), .slice none 0 0, .bool false] from (k30_mkF _ _ (⟨3, (⟨#[]⟩ : ByteArray), (⟨#[99]⟩ : ByteArray), ([] : List (S47)), false⟩ : S30) (Nat.le_refl _) (Kd.F_nil _ _ _))) (Reps.c5 (show Kd.FK k30 _ _ (⟨1, (⟨#[116, 105, 116, 108, 101]⟩ : ByteArray), (⟨#[]⟩ : ByteArray), ([] : List (S47)), false⟩ : S30) [.int .i64 1, .string (⟨#[116, 105, 116, 108, 101]⟩ : ByteArray), .string (⟨#[]⟩ : ByteArray), .slice none 0 0, .bool false] from (k30_mkF _ _ (⟨1, (⟨#[116, 105, 116, 108, 101]⟩ : ByteArray), (⟨#[]⟩ : ByteArray), ([] : List (S47)), false⟩ : S30) (Nat.le_refl _) (Kd.F_nil _ _ _))) (Reps.c5 (show Kd.FK k30 _ _ (⟨0, (⟨#[]⟩ : ByteArray), (⟨#[60, 47, 116, 105, 116]⟩ : ByteArray), ([] : List (S47)), false⟩ : S30) [.int .i64 0, .string (⟨#[]⟩ : ByteArray), .string (⟨#[60, 47, 116, 105, 116]⟩ : ByteArray), .slice none 0 0, .bool false] from (k30_mkF _ _ (⟨0, (⟨#[]⟩ : ByteArray), (⟨#[60, 47, 116, 105, 116]⟩ : ByteArray), ([] : List (S47)), false⟩ : S30) (Nat.le_refl _) (Kd.F_nil _ _ _))) (Reps.c5 (show Kd.FK k30 _ _ (⟨2, (⟨#[116, 105, 116, 108, 101]⟩ : ByteArray), (⟨#[]⟩ : ByteArray), ([] : List (S47)), false⟩ : S30) [.int .i64 2, .string (⟨#[116, 105, 116, 108, 101]⟩ : ByteArray), .string (⟨#[]⟩ : ByteArray), .slice none 0 0, .bool false] from (k30_mkF _ _ (⟨2, (⟨#[116, 105, 116, 108, 101]⟩ : ByteArray), (⟨#[]⟩ : ByteArray), ([] : List (S47)), false⟩ : S30) (Nat.le_refl _) (Kd.F_nil _ _ _))) (Reps.none _ _))))))))))); intro v130 w21 ho22 hb hg_ hnew_; clear hg_ hnew_; (first | rw [← Ny129.out] at ho22 | (simp only [Int.reduceToNat] at ho22; rw [← Ny129.out] at ho22)); have n0_ := Aside0.mk (Kd.N_elder' (by (with_reducible repeat (first | apply Kd.N_alloc | apply Kd.N_drewN | apply Kd.N_drew)); exact HO118.out) (Kd.N_base ho22) hb); have n1_ := Aside0.mk (Kd.R_below (by (with_reducible repeat (first | apply Kd.R_alloc | apply Kd.R_drewN | apply Kd.R_drew)); exact HO121.out) hb); have n2_ := Aside0.mk (Kd.N_elder' (by (with_reducible repeat (first | apply Kd.N_alloc | apply Kd.N_drewN | apply Kd.N_drew)); exact HO125.out) (Kd.N_base ho22) hb); have n3_ := Aside0.mk (Kd.N_lower ho22 (below_size (by repeat (first | (with_reducible first | exact HB.out | apply below_alloc | apply pw_below_drewN | apply below_drew1) | exact HB.out)))); have n4_ := Aside0.mk (below_step (by repeat (first | (with_reducible first | exact HB.out | apply below_alloc | apply pw_below_drewN | apply below_drew1) | exact HB.out)) hb); clear HO118; clear HO121; clear HO125; clear HB; clear HO128; have HO118 := n0_; have HO121 := n1_; have HO125 := n2_; have HO131 := n3_; have HB := n4_; clear n0_ n1_ n2_ n3_ n4_; clear hb ho22; obtain ⟨Ao23, co23, eo23⟩ := Kd.N_slice HO118.out; subst eo23; obtain ⟨Ao24, co24, eo24⟩ := Kd.N_slice HO131.out; subst eo24) | ((with_reducible refine gate_callee (f := 14) rfl ?_); refine goesL_ (some 31) rfl rfl Tryd.func14 (by kernel_rfl) rfl #[.slice Ao23 t115.length co23, .slice Ao24 y129.length co24] rfl (by (try simp only [List.map_toArray, List.map_cons, List.map_nil]); first | done | rfl | (simp only [List.length_drop, List.length_take]; rfl)) ?_; (with_reducible refine (stolelaw0_SameTokens.calls _ _ t115 _ _ y129 true _ ?side1 ?side2 ?side3 ?side4 A4.out).mono ?_); (case side1 => repeat (first | exact (Kd.N_reads' HO118.out).2.2 | (with_reducible refine Kd.C_alloc ?_ _) | (with_reducible refine Kd.C_drewN ?_ _) | (with_reducible refine Kd.C_drew ?_))); (case side2 => exact (Kd.N_reads' HO118.out).2.1); (case side3 => repeat (first | exact (Kd.N_reads' HO131.out).2.2 | (with_reducible refine Kd.C_alloc ?_ _) | (with_reducible refine Kd.C_drewN ?_ _) | (with_reducible refine Kd.C_drew ?_))); (case side4 => exact (Kd.N_reads' HO131.out).2.1); rintro e w' ⟨rfl, ⟨nd, rfl⟩⟩; refine ⟨_, rfl, ?_⟩) | (go_at_call 12; (with_reducible refine (stolelaw0_Num.calls t116 t133 _ A6.out).mono ?_); rintro e w' ⟨rfl, ⟨nd, rfl⟩⟩) | (go_at_call 12; (with_reducible refine (stolelaw0_Num.calls t123 t134 _ A8.out).mono ?_); rintro e w' ⟨rfl, ⟨nd, rfl⟩⟩) | (go_at_call 17; (with_reducible refine (stolelaw5_at.calls k (⟨#[60, 97, 32, 98, 61, 34, 99]⟩ : ByteArray) t135 t136 t137 t138 t139 t140 _ A10.out).mono ?_); rintro e w25 ⟨rfl, hb⟩; have n0_ := Aside0.mk (Kd.N_below (by (with_reducible repeat (first | apply Kd.N_alloc | apply Kd.N_drewN | apply Kd.N_drew)); exact HO118.out) hb); have n1_ := Aside0.mk (Kd.R_below (by (with_reducible repeat (first | apply Kd.R_alloc | apply Kd.R_drewN | apply Kd.R_drew)); exact HO121.out) hb); have n2_ := Aside0.mk (Kd.N_below (by (with_reducible repeat (first | apply Kd.N_alloc | apply Kd.N_drewN | apply Kd.N_drew)); exact HO125.out) hb); have n3_ := Aside0.mk (Kd.N_below (by (with_reducible repeat (first | apply Kd.N_alloc | apply Kd.N_drewN | apply Kd.N_drew)); exact HO131.out) hb); have n4_ := Aside0.mk (below_step (by repeat (first | (with_reducible first | exact HB.out | apply below_alloc | apply pw_below_drewN | apply below_drew1) | exact HB.out)) hb); clear HO118; clear HO121; clear HO125; clear HO131; clear HB; have HO118 := n0_; have HO121 := n1_; have HO125 := n2_; have HO131 := n3_; have HB := n4_; clear n0_ n1_ n2_ n3_ n4_; (try clear hb); (try clear hb2); (try clear hk); (try clear hi)) | (go_at_call 17; (with_reducible refine (stolelaw5_at.calls k (⟨#[60, 115, 116, 121, 108, 101, 62, 60, 47, 115, 84]⟩ : ByteArray) t141 t142 t143 t144 t145 t146 _ A12.out).mono ?_); rintro e w26 ⟨rfl, hb⟩; have n0_ := Aside0.mk (Kd.N_below (by (with_reducible repeat (first | apply Kd.N_alloc | apply Kd.N_drewN | apply Kd.N_drew)); exact HO118.out) hb); have n1_ := Aside0.mk (Kd.R_below (by (with_reducible repeat (first | apply Kd.R_alloc | apply Kd.R_drewN | apply Kd.R_drew)); exact HO121.out) hb); have n2_ := Aside0.mk (Kd.N_below (by (with_reducible repeat (first | apply Kd.N_alloc | apply Kd.N_drewN | apply Kd.N_drew)); exact HO125.out) hb); have n3_ := Aside0.mk (Kd.N_below (by (with_reducible repeat (first | apply Kd.N_alloc | apply Kd.N_drewN | apply Kd.N_drew)); exact HO131.out) hb); have n4_ := Aside0.mk (below_step (by repeat (first | (with_reducible first | exact HB.out | apply below_alloc | apply pw_below_drewN | apply below_drew1) | exact HB.out)) hb); clear HO118; clear HO121; clear HO125; clear HO131; clear HB; have HO118 := n0_; have HO121 := n1_; have HO125 := n2_; have HO131 := n3_; have HB := n4_; clear n0_ n1_ n2_ n3_ n4_; (try clear hb); (try clear hb2); (try clear hk); (try clear hi)))
      go_ret
      exact ⟨by first | rfl | (simp [errW_none, errW_some] <;> rfl) | (simp [*, errW_none, errW_some] <;> rfl), by repeat (first | (with_reducible first | exact HB.out | apply below_alloc | apply pw_below_drewN | apply below_drew1) | exact HB.out)⟩
     ·rw [if_neg c11] at H
      have c11b0 : (t135 == 8 && (t136.toList == ([97] : List UInt8) && (!t137 && (t138.toList == ([98] : List UInt8) && (t139.toList == ([] : List UInt8) && (t140 == 0)))))) = false := by simpa using c11
      (try (have c11b4 : (t135 == 8 && (t136.toList == ([97] : List UInt8) && (!t137 && (t138.toList == ([98] : List UInt8) && (t139.toList.isEmpty && (t140 == 0)))))) = false := by simpa only [nil_beq] using c11b0))
      (try (have c11b1 : decide (t135 = 8 && (t136.toList == ([97] : List UInt8) && (!t137 && (t138.toList == ([98] : List UInt8) && (t139.toList == ([] : List UInt8) && (t140 == 0)))))) = false := by simpa using c11))
      (try (have c11b2 : (t135 == 8 && (t136.toList == ([97] : List UInt8) && (!t137 && (t138.toList == ([98] : List UInt8) && (t139.toList == ([] : List UInt8) && (t140 == 0)))))) = false := by simpa using c11))
      (try (have c11b3 : ¬ (t135 = 8 && (t136.toList == ([97] : List UInt8) && (!t137 && (t138.toList == ([98] : List UInt8) && (t139.toList == ([] : List UInt8) && (t140 == 0)))))) := by simpa using c11))
      clear c11
      obtain rfl := Option.some.inj H
      exact absurd hr (by simp)
    ·rw [if_neg c9] at H
     have c9b0 : (t134 == 500) = false := beq_eq_false_iff_ne.mpr c9
     have c9b1 : (t134 != 500) = true := bne_iff_ne.mpr c9
     obtain rfl := Option.some.inj H
     exact absurd hr (by simp)
   ·rw [if_neg c7] at H
    have c7b0 : (t133 == 0) = false := beq_eq_false_iff_ne.mpr c7
    have c7b1 : (t133 != 0) = true := bne_iff_ne.mpr c7
    obtain rfl := Option.some.inj H
    exact absurd hr (by simp)
  ·replace c5 := Bool.eq_false_iff.mpr c5
   subst c5
   have H1 : (some false) = some r := by rw [if_neg (show ¬ (false = true) by decide)] at H; exact H
   clear H
   have H := H1
   clear H1
   obtain rfl := Option.some.inj H
   exact absurd hr (by simp)
 ·rw [if_neg c2] at H
  exact absurd H (by simp)
end Go.Proofs.YtgbaakopneldaaaDoor.XL
end
