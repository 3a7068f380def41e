/- tok.Step, second part: walked. tok.Step: one answer for all states. strings.Builder's grow, Grow at a fresh builder: walked. -/
import Derived.Test.YtfmcdlbbbmeolaaGreatDoorU0
import Derived.Test.YtfmcdlbbbmeolaaGreatDoorU8
import Derived.Test.YtfmcdlbbbmeolaaGreatDoorY1
import Derived.Outline
import Derived.Deep.RegionHeld3
import Derived.Deep.DrawnRows
import Derived.Handy
import Derived.Deep.QuietTactic
import Derived.BigQuiet
section
namespace Go.Proofs.YtfmcdlbbbmeolaaGreatDoor.Tk
open Go.RowKit Go.Proofs.YtfmcdlbbbmeolaaGreatDoorW.PrintWords Go.Proofs.YtfmcdlbbbmeolaaGreatDoorW.PrintLast Go.Proofs.YtfmcdlbbbmeolaaGreatDoorW.PrintMore
open Go.Proofs.YtfmcdlbbbmeolaaGreatDoor.Refs (lowN lowByte_calls)
attribute [local go_sem ↓] Go.wp_at_zero Go.wp_at_succ
set_option linter.unusedVariables false
set_option linter.unusedSimpArgs false
set_option maxRecDepth 100000
set_option maxHeartbeats 1600000 in
theorem step12_calls (s : St) (c : Nat) (w : World) (hc : c < 256) (hp : s.pos = 12) (hs : s.held.size ≤ 4611686018427387904) : Calls Tryz.prog 47 #[.agg #[.int .i64 s.pos, .string s.name, .bool s.fin, .string s.attr, .string s.held, .int .i64 s.read], .int .u8 c] w (RetS (beginsS s c) w) := by
  have hu40 := Tryz.underlying44
  go_enter Tryz.func47, Tryz.ntmps47
  go_wp2_with (first
    | ((with_reducible refine gate_dst (N := 2) rfl ?_); refine box_event ?hg (N := 2) ?hd (cs := #[.int .i64 s.pos, .string s.name, .bool s.fin, .string s.attr, .string s.held, .int .i64 s.read]) (t := 44) ?hr ?_; (case hd => rfl); (case hg => rfl); (case hr => first | (go_simp; done) | (go_simp; rfl)); intro g hg w0_ hbox hb; have HX := Aside0.mk (show StAt w0_ g s from hbox); have HL := Aside0.mk hb; clear hg hbox hb)
    | ((with_reducible refine gate_dst (N := 4) rfl ?_); refine box_event ?hg (N := 4) ?hd (cs := #[.int .i64 0, .string ⟨#[]⟩, .bool false, .string ⟨#[]⟩, .string ⟨#[]⟩, .int .i64 0]) (t := 44) ?hr ?_; (case hd => rfl); (case hg => rfl); (case hr => first | (go_simp; done) | (go_simp; rfl)); intro gb hgb w1_ hbox hb; have HG := Aside0.mk (show w.heap.size ≤ gb by rw [hgb]; exact HL.out.size); have HX := Aside0.mk (HX.out.below hb); have HR := Aside0.mk hbox; have HL := Aside0.mk (HL.out.trans (hb.mono HL.out.size)); clear hgb hbox hb)
    | ((with_reducible refine gate_dst (N := 5) rfl ?_); refine box_event ?hg (N := 5) ?hd (cs := #[.nilFunc, .nilFunc, .nilFunc, .nilFunc, .nilFunc, .nilFunc, .nilFunc, .nilFunc, .nilFunc, .nilFunc, .nilFunc, .nilFunc, .nilFunc, .nilFunc, .nilFunc, .nilFunc, .nilFunc, .nilFunc, .nilFunc, .nilFunc, .nilFunc, .nilFunc, .nilFunc]) (t := 121) ?hr ?_; (case hd => rfl); (case hg => rfl); (case hr => first | (go_simp; done) | (go_simp; rfl)); intro gt hgt w2_ hbox hb; have HT := Aside0.mk hbox; have HGT := Aside0.mk (show w.heap.size ≤ gt by rw [hgt]; exact HL.out.size); have HX := Aside0.mk (HX.out.below hb); have HR := Aside0.mk (blk_below HR.out hb); have HL := Aside0.mk (HL.out.trans (hb.mono HL.out.size)); clear hgt hbox hb)
    | ((with_reducible refine gate_store (t := 121) (p := 5) rfl ?_); refine store_row ?h1 121 (.tmp 5) (.tmp 6) ?h2 gt #[.func (.func 85) #[] #[], .func (.func 86) #[] #[], .func (.func 87) #[] #[], .func (.func 88) #[] #[], .func (.func 89) #[] #[], .func (.func 90) #[] #[], .func (.func 91) #[] #[], .func (.func 92) #[] #[], .func (.func 93) #[] #[], .func (.func 94) #[] #[], .func (.func 95) #[] #[], .func (.func 89) #[] #[], .func (.func 89) #[] #[], .func (.func 96) #[] #[], .func (.func 97) #[] #[], .func (.func 98) #[] #[], .func (.func 99) #[] #[], .func (.func 100) #[] #[], .func (.func 101) #[] #[], .func (.func 102) #[] #[], .func (.func 103) #[] #[], .func (.func 104) #[] #[], .func (.func 105) #[] #[]] ?h3 ?h4 ?h5 ?h6 HT.out ?h7 ?_; (case h1 => rfl); (case h2 => rfl); (case h3 => rfl); (case h4 => rfl); (case h5 => kernel_rfl); (case h6 => simp [Value.oneCell']); (case h7 => rfl); intro w3_ hcell hgrow; have hk := hcell 12 (.func (.func 89) #[] #[]) rfl; have HF : Aside0 (Fr w gb g s w3_) := Aside0.mk ⟨HG.out, blk_grown HR.out hgrow (fun e => blk_ne HT.out HR.out (by decide) (by injection e with e; exact e.symm)), blk_grown HX.out hgrow (fun e => blk_ne HT.out HX.out (by decide) (by injection e with e; exact e.symm)), HL.out.grown hgrow HL.out.size (fun k hk => by injection hk with hk; subst hk; exact HGT.out)⟩; clear hcell hgrow; obtain ⟨s0, s1, s2, s3, s4, s5⟩ := HF.out.facts; obtain ⟨a0, a1, a2, a3, a4, a5, b0, b1, b2, b3, b4, b5⟩ := HF.out.rfacts)
    | (go_at_call 89; refine (begins_calls s c g _ hc HF.out.st).mono ?_; rintro e w1 ⟨rfl, hb⟩; have HF := Aside0.mk (Fr.step (by (with_reducible repeat (first | exact HF.out | apply Fr.alloc | apply Fr.drew | apply Fr.drewN))) hb); clear hb; obtain ⟨s0, s1, s2, s3, s4, s5⟩ := HF.out.facts; obtain ⟨a0, a1, a2, a3, a4, a5, b0, b1, b2, b3, b4, b5⟩ := HF.out.rfacts))
  exact HF.out.ret rfl rfl rfl
set_option maxHeartbeats 1600000 in
theorem step13_calls (s : St) (c : Nat) (w : World) (hc : c < 256) (hp : s.pos = 13) (hs : s.held.size ≤ 4611686018427387904) : Calls Tryz.prog 47 #[.agg #[.int .i64 s.pos, .string s.name, .bool s.fin, .string s.attr, .string s.held, .int .i64 s.read], .int .u8 c] w (RetS (bangsS c 14) w) := by
  have hu40 := Tryz.underlying44
  go_enter Tryz.func47, Tryz.ntmps47
  go_wp2_with (first
    | ((with_reducible refine gate_dst (N := 2) rfl ?_); refine box_event ?hg (N := 2) ?hd (cs := #[.int .i64 s.pos, .string s.name, .bool s.fin, .string s.attr, .string s.held, .int .i64 s.read]) (t := 44) ?hr ?_; (case hd => rfl); (case hg => rfl); (case hr => first | (go_simp; done) | (go_simp; rfl)); intro g hg w0_ hbox hb; have HX := Aside0.mk (show StAt w0_ g s from hbox); have HL := Aside0.mk hb; clear hg hbox hb)
    | ((with_reducible refine gate_dst (N := 4) rfl ?_); refine box_event ?hg (N := 4) ?hd (cs := #[.int .i64 0, .string ⟨#[]⟩, .bool false, .string ⟨#[]⟩, .string ⟨#[]⟩, .int .i64 0]) (t := 44) ?hr ?_; (case hd => rfl); (case hg => rfl); (case hr => first | (go_simp; done) | (go_simp; rfl)); intro gb hgb w1_ hbox hb; have HG := Aside0.mk (show w.heap.size ≤ gb by rw [hgb]; exact HL.out.size); have HX := Aside0.mk (HX.out.below hb); have HR := Aside0.mk hbox; have HL := Aside0.mk (HL.out.trans (hb.mono HL.out.size)); clear hgb hbox hb)
    | ((with_reducible refine gate_dst (N := 5) rfl ?_); refine box_event ?hg (N := 5) ?hd (cs := #[.nilFunc, .nilFunc, .nilFunc, .nilFunc, .nilFunc, .nilFunc, .nilFunc, .nilFunc, .nilFunc, .nilFunc, .nilFunc, .nilFunc, .nilFunc, .nilFunc, .nilFunc, .nilFunc, .nilFunc, .nilFunc, .nilFunc, .nilFunc, .nilFunc, .nilFunc, .nilFunc]) (t := 121) ?hr ?_; (case hd => rfl); (case hg => rfl); (case hr => first | (go_simp; done) | (go_simp; rfl)); intro gt hgt w2_ hbox hb; have HT := Aside0.mk hbox; have HGT := Aside0.mk (show w.heap.size ≤ gt by rw [hgt]; exact HL.out.size); have HX := Aside0.mk (HX.out.below hb); have HR := Aside0.mk (blk_below HR.out hb); have HL := Aside0.mk (HL.out.trans (hb.mono HL.out.size)); clear hgt hbox hb)
    | ((with_reducible refine gate_store (t := 121) (p := 5) rfl ?_); refine store_row ?h1 121 (.tmp 5) (.tmp 6) ?h2 gt #[.func (.func 85) #[] #[], .func (.func 86) #[] #[], .func (.func 87) #[] #[], .func (.func 88) #[] #[], .func (.func 89) #[] #[], .func (.func 90) #[] #[], .func (.func 91) #[] #[], .func (.func 92) #[] #[], .func (.func 93) #[] #[], .func (.func 94) #[] #[], .func (.func 95) #[] #[], .func (.func 89) #[] #[], .func (.func 89) #[] #[], .func (.func 96) #[] #[], .func (.func 97) #[] #[], .func (.func 98) #[] #[], .func (.func 99) #[] #[], .func (.func 100) #[] #[], .func (.func 101) #[] #[], .func (.func 102) #[] #[], .func (.func 103) #[] #[], .func (.func 104) #[] #[], .func (.func 105) #[] #[]] ?h3 ?h4 ?h5 ?h6 HT.out ?h7 ?_; (case h1 => rfl); (case h2 => rfl); (case h3 => rfl); (case h4 => rfl); (case h5 => kernel_rfl); (case h6 => simp [Value.oneCell']); (case h7 => rfl); intro w3_ hcell hgrow; have hk := hcell 13 (.func (.func 96) #[] #[]) rfl; have HF : Aside0 (Fr w gb g s w3_) := Aside0.mk ⟨HG.out, blk_grown HR.out hgrow (fun e => blk_ne HT.out HR.out (by decide) (by injection e with e; exact e.symm)), blk_grown HX.out hgrow (fun e => blk_ne HT.out HX.out (by decide) (by injection e with e; exact e.symm)), HL.out.grown hgrow HL.out.size (fun k hk => by injection hk with hk; subst hk; exact HGT.out)⟩; clear hcell hgrow; obtain ⟨s0, s1, s2, s3, s4, s5⟩ := HF.out.facts; obtain ⟨a0, a1, a2, a3, a4, a5, b0, b1, b2, b3, b4, b5⟩ := HF.out.rfacts)
    | (go_at_call 96; refine (bang_calls s c g _ hc HF.out.st).mono ?_; rintro e w1 ⟨rfl, hb⟩; have HF := Aside0.mk (Fr.step (by (with_reducible repeat (first | exact HF.out | apply Fr.alloc | apply Fr.drew | apply Fr.drewN))) hb); clear hb; obtain ⟨s0, s1, s2, s3, s4, s5⟩ := HF.out.facts; obtain ⟨a0, a1, a2, a3, a4, a5, b0, b1, b2, b3, b4, b5⟩ := HF.out.rfacts))
  exact HF.out.ret rfl rfl rfl
set_option maxHeartbeats 1600000 in
theorem step14_calls (s : St) (c : Nat) (w : World) (hc : c < 256) (hp : s.pos = 14) (hs : s.held.size ≤ 4611686018427387904) : Calls Tryz.prog 47 #[.agg #[.int .i64 s.pos, .string s.name, .bool s.fin, .string s.attr, .string s.held, .int .i64 s.read], .int .u8 c] w (RetS (bangsS c 15) w) := by
  have hu40 := Tryz.underlying44
  go_enter Tryz.func47, Tryz.ntmps47
  go_wp2_with (first
    | ((with_reducible refine gate_dst (N := 2) rfl ?_); refine box_event ?hg (N := 2) ?hd (cs := #[.int .i64 s.pos, .string s.name, .bool s.fin, .string s.attr, .string s.held, .int .i64 s.read]) (t := 44) ?hr ?_; (case hd => rfl); (case hg => rfl); (case hr => first | (go_simp; done) | (go_simp; rfl)); intro g hg w0_ hbox hb; have HX := Aside0.mk (show StAt w0_ g s from hbox); have HL := Aside0.mk hb; clear hg hbox hb)
    | ((with_reducible refine gate_dst (N := 4) rfl ?_); refine box_event ?hg (N := 4) ?hd (cs := #[.int .i64 0, .string ⟨#[]⟩, .bool false, .string ⟨#[]⟩, .string ⟨#[]⟩, .int .i64 0]) (t := 44) ?hr ?_; (case hd => rfl); (case hg => rfl); (case hr => first | (go_simp; done) | (go_simp; rfl)); intro gb hgb w1_ hbox hb; have HG := Aside0.mk (show w.heap.size ≤ gb by rw [hgb]; exact HL.out.size); have HX := Aside0.mk (HX.out.below hb); have HR := Aside0.mk hbox; have HL := Aside0.mk (HL.out.trans (hb.mono HL.out.size)); clear hgb hbox hb)
    | ((with_reducible refine gate_dst (N := 5) rfl ?_); refine box_event ?hg (N := 5) ?hd (cs := #[.nilFunc, .nilFunc, .nilFunc, .nilFunc, .nilFunc, .nilFunc, .nilFunc, .nilFunc, .nilFunc, .nilFunc, .nilFunc, .nilFunc, .nilFunc, .nilFunc, .nilFunc, .nilFunc, .nilFunc, .nilFunc, .nilFunc, .nilFunc, .nilFunc, .nilFunc, .nilFunc]) (t := 121) ?hr ?_; (case hd => rfl); (case hg => rfl); (case hr => first | (go_simp; done) | (go_simp; rfl)); intro gt hgt w2_ hbox hb; have HT := Aside0.mk hbox; have HGT := Aside0.mk (show w.heap.size ≤ gt by rw [hgt]; exact HL.out.size); have HX := Aside0.mk (HX.out.below hb); have HR := Aside0.mk (blk_below HR.out hb); have HL := Aside0.mk (HL.out.trans (hb.mono HL.out.size)); clear hgt hbox hb)
    | ((with_reducible refine gate_store (t := 121) (p := 5) rfl ?_); refine store_row ?h1 121 (.tmp 5) (.tmp 6) ?h2 gt #[.func (.func 85) #[] #[], .func (.func 86) #[] #[], .func (.func 87) #[] #[], .func (.func 88) #[] #[], .func (.func 89) #[] #[], .func (.func 90) #[] #[], .func (.func 91) #[] #[], .func (.func 92) #[] #[], .func (.func 93) #[] #[], .func (.func 94) #[] #[], .func (.func 95) #[] #[], .func (.func 89) #[] #[], .func (.func 89) #[] #[], .func (.func 96) #[] #[], .func (.func 97) #[] #[], .func (.func 98) #[] #[], .func (.func 99) #[] #[], .func (.func 100) #[] #[], .func (.func 101) #[] #[], .func (.func 102) #[] #[], .func (.func 103) #[] #[], .func (.func 104) #[] #[], .func (.func 105) #[] #[]] ?h3 ?h4 ?h5 ?h6 HT.out ?h7 ?_; (case h1 => rfl); (case h2 => rfl); (case h3 => rfl); (case h4 => rfl); (case h5 => kernel_rfl); (case h6 => simp [Value.oneCell']); (case h7 => rfl); intro w3_ hcell hgrow; have hk := hcell 14 (.func (.func 97) #[] #[]) rfl; have HF : Aside0 (Fr w gb g s w3_) := Aside0.mk ⟨HG.out, blk_grown HR.out hgrow (fun e => blk_ne HT.out HR.out (by decide) (by injection e with e; exact e.symm)), blk_grown HX.out hgrow (fun e => blk_ne HT.out HX.out (by decide) (by injection e with e; exact e.symm)), HL.out.grown hgrow HL.out.size (fun k hk => by injection hk with hk; subst hk; exact HGT.out)⟩; clear hcell hgrow; obtain ⟨s0, s1, s2, s3, s4, s5⟩ := HF.out.facts; obtain ⟨a0, a1, a2, a3, a4, a5, b0, b1, b2, b3, b4, b5⟩ := HF.out.rfacts)
    | (go_at_call 97; refine (bangDash_calls s c g _ hc HF.out.st).mono ?_; rintro e w1 ⟨rfl, hb⟩; have HF := Aside0.mk (Fr.step (by (with_reducible repeat (first | exact HF.out | apply Fr.alloc | apply Fr.drew | apply Fr.drewN))) hb); clear hb; obtain ⟨s0, s1, s2, s3, s4, s5⟩ := HF.out.facts; obtain ⟨a0, a1, a2, a3, a4, a5, b0, b1, b2, b3, b4, b5⟩ := HF.out.rfacts))
  exact HF.out.ret rfl rfl rfl
set_option maxHeartbeats 1600000 in
theorem step15_calls (s : St) (c : Nat) (w : World) (hc : c < 256) (hp : s.pos = 15) (hs : s.held.size ≤ 4611686018427387904) : Calls Tryz.prog 47 #[.agg #[.int .i64 s.pos, .string s.name, .bool s.fin, .string s.attr, .string s.held, .int .i64 s.read], .int .u8 c] w (RetS (commentS c) w) := by
  have hu40 := Tryz.underlying44
  go_enter Tryz.func47, Tryz.ntmps47
  go_wp2_with (first
    | ((with_reducible refine gate_dst (N := 2) rfl ?_); refine box_event ?hg (N := 2) ?hd (cs := #[.int .i64 s.pos, .string s.name, .bool s.fin, .string s.attr, .string s.held, .int .i64 s.read]) (t := 44) ?hr ?_; (case hd => rfl); (case hg => rfl); (case hr => first | (go_simp; done) | (go_simp; rfl)); intro g hg w0_ hbox hb; have HX := Aside0.mk (show StAt w0_ g s from hbox); have HL := Aside0.mk hb; clear hg hbox hb)
    | ((with_reducible refine gate_dst (N := 4) rfl ?_); refine box_event ?hg (N := 4) ?hd (cs := #[.int .i64 0, .string ⟨#[]⟩, .bool false, .string ⟨#[]⟩, .string ⟨#[]⟩, .int .i64 0]) (t := 44) ?hr ?_; (case hd => rfl); (case hg => rfl); (case hr => first | (go_simp; done) | (go_simp; rfl)); intro gb hgb w1_ hbox hb; have HG := Aside0.mk (show w.heap.size ≤ gb by rw [hgb]; exact HL.out.size); have HX := Aside0.mk (HX.out.below hb); have HR := Aside0.mk hbox; have HL := Aside0.mk (HL.out.trans (hb.mono HL.out.size)); clear hgb hbox hb)
    | ((with_reducible refine gate_dst (N := 5) rfl ?_); refine box_event ?hg (N := 5) ?hd (cs := #[.nilFunc, .nilFunc, .nilFunc, .nilFunc, .nilFunc, .nilFunc, .nilFunc, .nilFunc, .nilFunc, .nilFunc, .nilFunc, .nilFunc, .nilFunc, .nilFunc, .nilFunc, .nilFunc, .nilFunc, .nilFunc, .nilFunc, .nilFunc, .nilFunc, .nilFunc, .nilFunc]) (t := 121) ?hr ?_; (case hd => rfl); (case hg => rfl); (case hr => first | (go_simp; done) | (go_simp; rfl)); intro gt hgt w2_ hbox hb; have HT := Aside0.mk hbox; have HGT := Aside0.mk (show w.heap.size ≤ gt by rw [hgt]; exact HL.out.size); have HX := Aside0.mk (HX.out.below hb); have HR := Aside0.mk (blk_below HR.out hb); have HL := Aside0.mk (HL.out.trans (hb.mono HL.out.size)); clear hgt hbox hb)
    | ((with_reducible refine gate_store (t := 121) (p := 5) rfl ?_); refine store_row ?h1 121 (.tmp 5) (.tmp 6) ?h2 gt #[.func (.func 85) #[] #[], .func (.func 86) #[] #[], .func (.func 87) #[] #[], .func (.func 88) #[] #[], .func (.func 89) #[] #[], .func (.func 90) #[] #[], .func (.func 91) #[] #[], .func (.func 92) #[] #[], .func (.func 93) #[] #[], .func (.func 94) #[] #[], .func (.func 95) #[] #[], .func (.func 89) #[] #[], .func (.func 89) #[] #[], .func (.func 96) #[] #[], .func (.func 97) #[] #[], .func (.func 98) #[] #[], .func (.func 99) #[] #[], .func (.func 100) #[] #[], .func (.func 101) #[] #[], .func (.func 102) #[] #[], .func (.func 103) #[] #[], .func (.func 104) #[] #[], .func (.func 105) #[] #[]] ?h3 ?h4 ?h5 ?h6 HT.out ?h7 ?_; (case h1 => rfl); (case h2 => rfl); (case h3 => rfl); (case h4 => rfl); (case h5 => kernel_rfl); (case h6 => simp [Value.oneCell']); (case h7 => rfl); intro w3_ hcell hgrow; have hk := hcell 15 (.func (.func 98) #[] #[]) rfl; have HF : Aside0 (Fr w gb g s w3_) := Aside0.mk ⟨HG.out, blk_grown HR.out hgrow (fun e => blk_ne HT.out HR.out (by decide) (by injection e with e; exact e.symm)), blk_grown HX.out hgrow (fun e => blk_ne HT.out HX.out (by decide) (by injection e with e; exact e.symm)), HL.out.grown hgrow HL.out.size (fun k hk => by injection hk with hk; subst hk; exact HGT.out)⟩; clear hcell hgrow; obtain ⟨s0, s1, s2, s3, s4, s5⟩ := HF.out.facts; obtain ⟨a0, a1, a2, a3, a4, a5, b0, b1, b2, b3, b4, b5⟩ := HF.out.rfacts)
    | (go_at_call 98; refine (comment_calls s c g _ hc HF.out.st).mono ?_; rintro e w1 ⟨rfl, hb⟩; have HF := Aside0.mk (Fr.step (by (with_reducible repeat (first | exact HF.out | apply Fr.alloc | apply Fr.drew | apply Fr.drewN))) hb); clear hb; obtain ⟨s0, s1, s2, s3, s4, s5⟩ := HF.out.facts; obtain ⟨a0, a1, a2, a3, a4, a5, b0, b1, b2, b3, b4, b5⟩ := HF.out.rfacts))
  exact HF.out.ret rfl rfl rfl
set_option maxHeartbeats 1600000 in
theorem step16_calls (s : St) (c : Nat) (w : World) (hc : c < 256) (hp : s.pos = 16) (hs : s.held.size ≤ 4611686018427387904) : Calls Tryz.prog 47 #[.agg #[.int .i64 s.pos, .string s.name, .bool s.fin, .string s.attr, .string s.held, .int .i64 s.read], .int .u8 c] w (RetS (commentDashS c) w) := by
  have hu40 := Tryz.underlying44
  go_enter Tryz.func47, Tryz.ntmps47
  go_wp2_with (first
    | ((with_reducible refine gate_dst (N := 2) rfl ?_); refine box_event ?hg (N := 2) ?hd (cs := #[.int .i64 s.pos, .string s.name, .bool s.fin, .string s.attr, .string s.held, .int .i64 s.read]) (t := 44) ?hr ?_; (case hd => rfl); (case hg => rfl); (case hr => first | (go_simp; done) | (go_simp; rfl)); intro g hg w0_ hbox hb; have HX := Aside0.mk (show StAt w0_ g s from hbox); have HL := Aside0.mk hb; clear hg hbox hb)
    | ((with_reducible refine gate_dst (N := 4) rfl ?_); refine box_event ?hg (N := 4) ?hd (cs := #[.int .i64 0, .string ⟨#[]⟩, .bool false, .string ⟨#[]⟩, .string ⟨#[]⟩, .int .i64 0]) (t := 44) ?hr ?_; (case hd => rfl); (case hg => rfl); (case hr => first | (go_simp; done) | (go_simp; rfl)); intro gb hgb w1_ hbox hb; have HG := Aside0.mk (show w.heap.size ≤ gb by rw [hgb]; exact HL.out.size); have HX := Aside0.mk (HX.out.below hb); have HR := Aside0.mk hbox; have HL := Aside0.mk (HL.out.trans (hb.mono HL.out.size)); clear hgb hbox hb)
    | ((with_reducible refine gate_dst (N := 5) rfl ?_); refine box_event ?hg (N := 5) ?hd (cs := #[.nilFunc, .nilFunc, .nilFunc, .nilFunc, .nilFunc, .nilFunc, .nilFunc, .nilFunc, .nilFunc, .nilFunc, .nilFunc, .nilFunc, .nilFunc, .nilFunc, .nilFunc, .nilFunc, .nilFunc, .nilFunc, .nilFunc, .nilFunc, .nilFunc, .nilFunc, .nilFunc]) (t := 121) ?hr ?_; (case hd => rfl); (case hg => rfl); (case hr => first | (go_simp; done) | (go_simp; rfl)); intro gt hgt w2_ hbox hb; have HT := Aside0.mk hbox; have HGT := Aside0.mk (show w.heap.size ≤ gt by rw [hgt]; exact HL.out.size); have HX := Aside0.mk (HX.out.below hb); have HR := Aside0.mk (blk_below HR.out hb); have HL := Aside0.mk (HL.out.trans (hb.mono HL.out.size)); clear hgt hbox hb)
    | ((with_reducible refine gate_store (t := 121) (p := 5) rfl ?_); refine store_row ?h1 121 (.tmp 5) (.tmp 6) ?h2 gt #[.func (.func 85) #[] #[], .func (.func 86) #[] #[], .func (.func 87) #[] #[], .func (.func 88) #[] #[], .func (.func 89) #[] #[], .func (.func 90) #[] #[], .func (.func 91) #[] #[], .func (.func 92) #[] #[], .func (.func 93) #[] #[], .func (.func 94) #[] #[], .func (.func 95) #[] #[], .func (.func 89) #[] #[], .func (.func 89) #[] #[], .func (.func 96) #[] #[], .func (.func 97) #[] #[], .func (.func 98) #[] #[], .func (.func 99) #[] #[], .func (.func 100) #[] #[], .func (.func 101) #[] #[], .func (.func 102) #[] #[], .func (.func 103) #[] #[], .func (.func 104) #[] #[], .func (.func 105) #[] #[]] ?h3 ?h4 ?h5 ?h6 HT.out ?h7 ?_; (case h1 => rfl); (case h2 => rfl); (case h3 => rfl); (case h4 => rfl); (case h5 => kernel_rfl); (case h6 => simp [Value.oneCell']); (case h7 => rfl); intro w3_ hcell hgrow; have hk := hcell 16 (.func (.func 99) #[] #[]) rfl; have HF : Aside0 (Fr w gb g s w3_) := Aside0.mk ⟨HG.out, blk_grown HR.out hgrow (fun e => blk_ne HT.out HR.out (by decide) (by injection e with e; exact e.symm)), blk_grown HX.out hgrow (fun e => blk_ne HT.out HX.out (by decide) (by injection e with e; exact e.symm)), HL.out.grown hgrow HL.out.size (fun k hk => by injection hk with hk; subst hk; exact HGT.out)⟩; clear hcell hgrow; obtain ⟨s0, s1, s2, s3, s4, s5⟩ := HF.out.facts; obtain ⟨a0, a1, a2, a3, a4, a5, b0, b1, b2, b3, b4, b5⟩ := HF.out.rfacts)
    | (go_at_call 99; refine (commentDash_calls s c g _ hc HF.out.st).mono ?_; rintro e w1 ⟨rfl, hb⟩; have HF := Aside0.mk (Fr.step (by (with_reducible repeat (first | exact HF.out | apply Fr.alloc | apply Fr.drew | apply Fr.drewN))) hb); clear hb; obtain ⟨s0, s1, s2, s3, s4, s5⟩ := HF.out.facts; obtain ⟨a0, a1, a2, a3, a4, a5, b0, b1, b2, b3, b4, b5⟩ := HF.out.rfacts))
  exact HF.out.ret rfl rfl rfl
set_option maxHeartbeats 1600000 in
theorem step17_calls (s : St) (c : Nat) (w : World) (hc : c < 256) (hp : s.pos = 17) (hs : s.held.size ≤ 4611686018427387904) : Calls Tryz.prog 47 #[.agg #[.int .i64 s.pos, .string s.name, .bool s.fin, .string s.attr, .string s.held, .int .i64 s.read], .int .u8 c] w (RetS (commentEndS c) w) := by
  have hu40 := Tryz.underlying44
  go_enter Tryz.func47, Tryz.ntmps47
  go_wp2_with (first
    | ((with_reducible refine gate_dst (N := 2) rfl ?_); refine box_event ?hg (N := 2) ?hd (cs := #[.int .i64 s.pos, .string s.name, .bool s.fin, .string s.attr, .string s.held, .int .i64 s.read]) (t := 44) ?hr ?_; (case hd => rfl); (case hg => rfl); (case hr => first | (go_simp; done) | (go_simp; rfl)); intro g hg w0_ hbox hb; have HX := Aside0.mk (show StAt w0_ g s from hbox); have HL := Aside0.mk hb; clear hg hbox hb)
    | ((with_reducible refine gate_dst (N := 4) rfl ?_); refine box_event ?hg (N := 4) ?hd (cs := #[.int .i64 0, .string ⟨#[]⟩, .bool false, .string ⟨#[]⟩, .string ⟨#[]⟩, .int .i64 0]) (t := 44) ?hr ?_; (case hd => rfl); (case hg => rfl); (case hr => first | (go_simp; done) | (go_simp; rfl)); intro gb hgb w1_ hbox hb; have HG := Aside0.mk (show w.heap.size ≤ gb by rw [hgb]; exact HL.out.size); have HX := Aside0.mk (HX.out.below hb); have HR := Aside0.mk hbox; have HL := Aside0.mk (HL.out.trans (hb.mono HL.out.size)); clear hgb hbox hb)
    | ((with_reducible refine gate_dst (N := 5) rfl ?_); refine box_event ?hg (N := 5) ?hd (cs := #[.nilFunc, .nilFunc, .nilFunc, .nilFunc, .nilFunc, .nilFunc, .nilFunc, .nilFunc, .nilFunc, .nilFunc, .nilFunc, .nilFunc, .nilFunc, .nilFunc, .nilFunc, .nilFunc, .nilFunc, .nilFunc, .nilFunc, .nilFunc, .nilFunc, .nilFunc, .nilFunc]) (t := 121) ?hr ?_; (case hd => rfl); (case hg => rfl); (case hr => first | (go_simp; done) | (go_simp; rfl)); intro gt hgt w2_ hbox hb; have HT := Aside0.mk hbox; have HGT := Aside0.mk (show w.heap.size ≤ gt by rw [hgt]; exact HL.out.size); have HX := Aside0.mk (HX.out.below hb); have HR := Aside0.mk (blk_below HR.out hb); have HL := Aside0.mk (HL.out.trans (hb.mono HL.out.size)); clear hgt hbox hb)
    | ((with_reducible refine gate_store (t := 121) (p := 5) rfl ?_); refine store_row ?h1 121 (.tmp 5) (.tmp 6) ?h2 gt #[.func (.func 85) #[] #[], .func (.func 86) #[] #[], .func (.func 87) #[] #[], .func (.func 88) #[] #[], .func (.func 89) #[] #[], .func (.func 90) #[] #[], .func (.func 91) #[] #[], .func (.func 92) #[] #[], .func (.func 93) #[] #[], .func (.func 94) #[] #[], .func (.func 95) #[] #[], .func (.func 89) #[] #[], .func (.func 89) #[] #[], .func (.func 96) #[] #[], .func (.func 97) #[] #[], .func (.func 98) #[] #[], .func (.func 99) #[] #[], .func (.func 100) #[] #[], .func (.func 101) #[] #[], .func (.func 102) #[] #[], .func (.func 103) #[] #[], .func (.func 104) #[] #[], .func (.func 105) #[] #[]] ?h3 ?h4 ?h5 ?h6 HT.out ?h7 ?_; (case h1 => rfl); (case h2 => rfl); (case h3 => rfl); (case h4 => rfl); (case h5 => kernel_rfl); (case h6 => simp [Value.oneCell']); (case h7 => rfl); intro w3_ hcell hgrow; have hk := hcell 17 (.func (.func 100) #[] #[]) rfl; have HF : Aside0 (Fr w gb g s w3_) := Aside0.mk ⟨HG.out, blk_grown HR.out hgrow (fun e => blk_ne HT.out HR.out (by decide) (by injection e with e; exact e.symm)), blk_grown HX.out hgrow (fun e => blk_ne HT.out HX.out (by decide) (by injection e with e; exact e.symm)), HL.out.grown hgrow HL.out.size (fun k hk => by injection hk with hk; subst hk; exact HGT.out)⟩; clear hcell hgrow; obtain ⟨s0, s1, s2, s3, s4, s5⟩ := HF.out.facts; obtain ⟨a0, a1, a2, a3, a4, a5, b0, b1, b2, b3, b4, b5⟩ := HF.out.rfacts)
    | (go_at_call 100; refine (commentEnd_calls s c g _ hc HF.out.st).mono ?_; rintro e w1 ⟨rfl, hb⟩; have HF := Aside0.mk (Fr.step (by (with_reducible repeat (first | exact HF.out | apply Fr.alloc | apply Fr.drew | apply Fr.drewN))) hb); clear hb; obtain ⟨s0, s1, s2, s3, s4, s5⟩ := HF.out.facts; obtain ⟨a0, a1, a2, a3, a4, a5, b0, b1, b2, b3, b4, b5⟩ := HF.out.rfacts))
  exact HF.out.ret rfl rfl rfl
set_option maxHeartbeats 1600000 in
theorem step18_calls (s : St) (c : Nat) (w : World) (hc : c < 256) (hp : s.pos = 18) (hs : s.held.size ≤ 4611686018427387904) : Calls Tryz.prog 47 #[.agg #[.int .i64 s.pos, .string s.name, .bool s.fin, .string s.attr, .string s.held, .int .i64 s.read], .int .u8 c] w (RetS (bogusS c) w) := by
  have hu40 := Tryz.underlying44
  go_enter Tryz.func47, Tryz.ntmps47
  go_wp2_with (first
    | ((with_reducible refine gate_dst (N := 2) rfl ?_); refine box_event ?hg (N := 2) ?hd (cs := #[.int .i64 s.pos, .string s.name, .bool s.fin, .string s.attr, .string s.held, .int .i64 s.read]) (t := 44) ?hr ?_; (case hd => rfl); (case hg => rfl); (case hr => first | (go_simp; done) | (go_simp; rfl)); intro g hg w0_ hbox hb; have HX := Aside0.mk (show StAt w0_ g s from hbox); have HL := Aside0.mk hb; clear hg hbox hb)
    | ((with_reducible refine gate_dst (N := 4) rfl ?_); refine box_event ?hg (N := 4) ?hd (cs := #[.int .i64 0, .string ⟨#[]⟩, .bool false, .string ⟨#[]⟩, .string ⟨#[]⟩, .int .i64 0]) (t := 44) ?hr ?_; (case hd => rfl); (case hg => rfl); (case hr => first | (go_simp; done) | (go_simp; rfl)); intro gb hgb w1_ hbox hb; have HG := Aside0.mk (show w.heap.size ≤ gb by rw [hgb]; exact HL.out.size); have HX := Aside0.mk (HX.out.below hb); have HR := Aside0.mk hbox; have HL := Aside0.mk (HL.out.trans (hb.mono HL.out.size)); clear hgb hbox hb)
    | ((with_reducible refine gate_dst (N := 5) rfl ?_); refine box_event ?hg (N := 5) ?hd (cs := #[.nilFunc, .nilFunc, .nilFunc, .nilFunc, .nilFunc, .nilFunc, .nilFunc, .nilFunc, .nilFunc, .nilFunc, .nilFunc, .nilFunc, .nilFunc, .nilFunc, .nilFunc, .nilFunc, .nilFunc, .nilFunc, .nilFunc, .nilFunc, .nilFunc, .nilFunc, .nilFunc]) (t := 121) ?hr ?_; (case hd => rfl); (case hg => rfl); (case hr => first | (go_simp; done) | (go_simp; rfl)); intro gt hgt w2_ hbox hb; have HT := Aside0.mk hbox; have HGT := Aside0.mk (show w.heap.size ≤ gt by rw [hgt]; exact HL.out.size); have HX := Aside0.mk (HX.out.below hb); have HR := Aside0.mk (blk_below HR.out hb); have HL := Aside0.mk (HL.out.trans (hb.mono HL.out.size)); clear hgt hbox hb)
    | ((with_reducible refine gate_store (t := 121) (p := 5) rfl ?_); refine store_row ?h1 121 (.tmp 5) (.tmp 6) ?h2 gt #[.func (.func 85) #[] #[], .func (.func 86) #[] #[], .func (.func 87) #[] #[], .func (.func 88) #[] #[], .func (.func 89) #[] #[], .func (.func 90) #[] #[], .func (.func 91) #[] #[], .func (.func 92) #[] #[], .func (.func 93) #[] #[], .func (.func 94) #[] #[], .func (.func 95) #[] #[], .func (.func 89) #[] #[], .func (.func 89) #[] #[], .func (.func 96) #[] #[], .func (.func 97) #[] #[], .func (.func 98) #[] #[], .func (.func 99) #[] #[], .func (.func 100) #[] #[], .func (.func 101) #[] #[], .func (.func 102) #[] #[], .func (.func 103) #[] #[], .func (.func 104) #[] #[], .func (.func 105) #[] #[]] ?h3 ?h4 ?h5 ?h6 HT.out ?h7 ?_; (case h1 => rfl); (case h2 => rfl); (case h3 => rfl); (case h4 => rfl); (case h5 => kernel_rfl); (case h6 => simp [Value.oneCell']); (case h7 => rfl); intro w3_ hcell hgrow; have hk := hcell 18 (.func (.func 101) #[] #[]) rfl; have HF : Aside0 (Fr w gb g s w3_) := Aside0.mk ⟨HG.out, blk_grown HR.out hgrow (fun e => blk_ne HT.out HR.out (by decide) (by injection e with e; exact e.symm)), blk_grown HX.out hgrow (fun e => blk_ne HT.out HX.out (by decide) (by injection e with e; exact e.symm)), HL.out.grown hgrow HL.out.size (fun k hk => by injection hk with hk; subst hk; exact HGT.out)⟩; clear hcell hgrow; obtain ⟨s0, s1, s2, s3, s4, s5⟩ := HF.out.facts; obtain ⟨a0, a1, a2, a3, a4, a5, b0, b1, b2, b3, b4, b5⟩ := HF.out.rfacts)
    | (go_at_call 101; refine (bogus_calls s c g _ hc HF.out.st).mono ?_; rintro e w1 ⟨rfl, hb⟩; have HF := Aside0.mk (Fr.step (by (with_reducible repeat (first | exact HF.out | apply Fr.alloc | apply Fr.drew | apply Fr.drewN))) hb); clear hb; obtain ⟨s0, s1, s2, s3, s4, s5⟩ := HF.out.facts; obtain ⟨a0, a1, a2, a3, a4, a5, b0, b1, b2, b3, b4, b5⟩ := HF.out.rfacts))
  exact HF.out.ret rfl rfl rfl
set_option maxHeartbeats 1600000 in
theorem step19_calls (s : St) (c : Nat) (w : World) (hc : c < 256) (hp : s.pos = 19) (hs : s.held.size ≤ 4611686018427387904) : Calls Tryz.prog 47 #[.agg #[.int .i64 s.pos, .string s.name, .bool s.fin, .string s.attr, .string s.held, .int .i64 s.read], .int .u8 c] w (RetS (holdsS s c) w) := by
  have hu40 := Tryz.underlying44
  go_enter Tryz.func47, Tryz.ntmps47
  go_wp2_with (first
    | ((with_reducible refine gate_dst (N := 2) rfl ?_); refine box_event ?hg (N := 2) ?hd (cs := #[.int .i64 s.pos, .string s.name, .bool s.fin, .string s.attr, .string s.held, .int .i64 s.read]) (t := 44) ?hr ?_; (case hd => rfl); (case hg => rfl); (case hr => first | (go_simp; done) | (go_simp; rfl)); intro g hg w0_ hbox hb; have HX := Aside0.mk (show StAt w0_ g s from hbox); have HL := Aside0.mk hb; clear hg hbox hb)
    | ((with_reducible refine gate_dst (N := 4) rfl ?_); refine box_event ?hg (N := 4) ?hd (cs := #[.int .i64 0, .string ⟨#[]⟩, .bool false, .string ⟨#[]⟩, .string ⟨#[]⟩, .int .i64 0]) (t := 44) ?hr ?_; (case hd => rfl); (case hg => rfl); (case hr => first | (go_simp; done) | (go_simp; rfl)); intro gb hgb w1_ hbox hb; have HG := Aside0.mk (show w.heap.size ≤ gb by rw [hgb]; exact HL.out.size); have HX := Aside0.mk (HX.out.below hb); have HR := Aside0.mk hbox; have HL := Aside0.mk (HL.out.trans (hb.mono HL.out.size)); clear hgb hbox hb)
    | ((with_reducible refine gate_dst (N := 5) rfl ?_); refine box_event ?hg (N := 5) ?hd (cs := #[.nilFunc, .nilFunc, .nilFunc, .nilFunc, .nilFunc, .nilFunc, .nilFunc, .nilFunc, .nilFunc, .nilFunc, .nilFunc, .nilFunc, .nilFunc, .nilFunc, .nilFunc, .nilFunc, .nilFunc, .nilFunc, .nilFunc, .nilFunc, .nilFunc, .nilFunc, .nilFunc]) (t := 121) ?hr ?_; (case hd => rfl); (case hg => rfl); (case hr => first | (go_simp; done) | (go_simp; rfl)); intro gt hgt w2_ hbox hb; have HT := Aside0.mk hbox; have HGT := Aside0.mk (show w.heap.size ≤ gt by rw [hgt]; exact HL.out.size); have HX := Aside0.mk (HX.out.below hb); have HR := Aside0.mk (blk_below HR.out hb); have HL := Aside0.mk (HL.out.trans (hb.mono HL.out.size)); clear hgt hbox hb)
    | ((with_reducible refine gate_store (t := 121) (p := 5) rfl ?_); refine store_row ?h1 121 (.tmp 5) (.tmp 6) ?h2 gt #[.func (.func 85) #[] #[], .func (.func 86) #[] #[], .func (.func 87) #[] #[], .func (.func 88) #[] #[], .func (.func 89) #[] #[], .func (.func 90) #[] #[], .func (.func 91) #[] #[], .func (.func 92) #[] #[], .func (.func 93) #[] #[], .func (.func 94) #[] #[], .func (.func 95) #[] #[], .func (.func 89) #[] #[], .func (.func 89) #[] #[], .func (.func 96) #[] #[], .func (.func 97) #[] #[], .func (.func 98) #[] #[], .func (.func 99) #[] #[], .func (.func 100) #[] #[], .func (.func 101) #[] #[], .func (.func 102) #[] #[], .func (.func 103) #[] #[], .func (.func 104) #[] #[], .func (.func 105) #[] #[]] ?h3 ?h4 ?h5 ?h6 HT.out ?h7 ?_; (case h1 => rfl); (case h2 => rfl); (case h3 => rfl); (case h4 => rfl); (case h5 => kernel_rfl); (case h6 => simp [Value.oneCell']); (case h7 => rfl); intro w3_ hcell hgrow; have hk := hcell 19 (.func (.func 102) #[] #[]) rfl; have HF : Aside0 (Fr w gb g s w3_) := Aside0.mk ⟨HG.out, blk_grown HR.out hgrow (fun e => blk_ne HT.out HR.out (by decide) (by injection e with e; exact e.symm)), blk_grown HX.out hgrow (fun e => blk_ne HT.out HX.out (by decide) (by injection e with e; exact e.symm)), HL.out.grown hgrow HL.out.size (fun k hk => by injection hk with hk; subst hk; exact HGT.out)⟩; clear hcell hgrow; obtain ⟨s0, s1, s2, s3, s4, s5⟩ := HF.out.facts; obtain ⟨a0, a1, a2, a3, a4, a5, b0, b1, b2, b3, b4, b5⟩ := HF.out.rfacts)
    | (go_at_call 102; refine (holds_calls s c g _ hc HF.out.st).mono ?_; rintro e w1 ⟨rfl, hb⟩; have HF := Aside0.mk (Fr.step (by (with_reducible repeat (first | exact HF.out | apply Fr.alloc | apply Fr.drew | apply Fr.drewN))) hb); clear hb; obtain ⟨s0, s1, s2, s3, s4, s5⟩ := HF.out.facts; obtain ⟨a0, a1, a2, a3, a4, a5, b0, b1, b2, b3, b4, b5⟩ := HF.out.rfacts))
  exact HF.out.ret rfl rfl rfl
set_option maxHeartbeats 1600000 in
theorem step20_calls (s : St) (c : Nat) (w : World) (hc : c < 256) (hp : s.pos = 20) (hs : s.held.size ≤ 4611686018427387904) : Calls Tryz.prog 47 #[.agg #[.int .i64 s.pos, .string s.name, .bool s.fin, .string s.attr, .string s.held, .int .i64 s.read], .int .u8 c] w (RetS (heldLtS s c) w) := by
  have hu40 := Tryz.underlying44
  go_enter Tryz.func47, Tryz.ntmps47
  go_wp2_with (first
    | ((with_reducible refine gate_dst (N := 2) rfl ?_); refine box_event ?hg (N := 2) ?hd (cs := #[.int .i64 s.pos, .string s.name, .bool s.fin, .string s.attr, .string s.held, .int .i64 s.read]) (t := 44) ?hr ?_; (case hd => rfl); (case hg => rfl); (case hr => first | (go_simp; done) | (go_simp; rfl)); intro g hg w0_ hbox hb; have HX := Aside0.mk (show StAt w0_ g s from hbox); have HL := Aside0.mk hb; clear hg hbox hb)
    | ((with_reducible refine gate_dst (N := 4) rfl ?_); refine box_event ?hg (N := 4) ?hd (cs := #[.int .i64 0, .string ⟨#[]⟩, .bool false, .string ⟨#[]⟩, .string ⟨#[]⟩, .int .i64 0]) (t := 44) ?hr ?_; (case hd => rfl); (case hg => rfl); (case hr => first | (go_simp; done) | (go_simp; rfl)); intro gb hgb w1_ hbox hb; have HG := Aside0.mk (show w.heap.size ≤ gb by rw [hgb]; exact HL.out.size); have HX := Aside0.mk (HX.out.below hb); have HR := Aside0.mk hbox; have HL := Aside0.mk (HL.out.trans (hb.mono HL.out.size)); clear hgb hbox hb)
    | ((with_reducible refine gate_dst (N := 5) rfl ?_); refine box_event ?hg (N := 5) ?hd (cs := #[.nilFunc, .nilFunc, .nilFunc, .nilFunc, .nilFunc, .nilFunc, .nilFunc, .nilFunc, .nilFunc, .nilFunc, .nilFunc, .nilFunc, .nilFunc, .nilFunc, .nilFunc, .nilFunc, .nilFunc, .nilFunc, .nilFunc, .nilFunc, .nilFunc, .nilFunc, .nilFunc]) (t := 121) ?hr ?_; (case hd => rfl); (case hg => rfl); (case hr => first | (go_simp; done) | (go_simp; rfl)); intro gt hgt w2_ hbox hb; have HT := Aside0.mk hbox; have HGT := Aside0.mk (show w.heap.size ≤ gt by rw [hgt]; exact HL.out.size); have HX := Aside0.mk (HX.out.below hb); have HR := Aside0.mk (blk_below HR.out hb); have HL := Aside0.mk (HL.out.trans (hb.mono HL.out.size)); clear hgt hbox hb)
    | ((with_reducible refine gate_store (t := 121) (p := 5) rfl ?_); refine store_row ?h1 121 (.tmp 5) (.tmp 6) ?h2 gt #[.func (.func 85) #[] #[], .func (.func 86) #[] #[], .func (.func 87) #[] #[], .func (.func 88) #[] #[], .func (.func 89) #[] #[], .func (.func 90) #[] #[], .func (.func 91) #[] #[], .func (.func 92) #[] #[], .func (.func 93) #[] #[], .func (.func 94) #[] #[], .func (.func 95) #[] #[], .func (.func 89) #[] #[], .func (.func 89) #[] #[], .func (.func 96) #[] #[], .func (.func 97) #[] #[], .func (.func 98) #[] #[], .func (.func 99) #[] #[], .func (.func 100) #[] #[], .func (.func 101) #[] #[], .func (.func 102) #[] #[], .func (.func 103) #[] #[], .func (.func 104) #[] #[], .func (.func 105) #[] #[]] ?h3 ?h4 ?h5 ?h6 HT.out ?h7 ?_; (case h1 => rfl); (case h2 => rfl); (case h3 => rfl); (case h4 => rfl); (case h5 => kernel_rfl); (case h6 => simp [Value.oneCell']); (case h7 => rfl); intro w3_ hcell hgrow; have hk := hcell 20 (.func (.func 103) #[] #[]) rfl; have HF : Aside0 (Fr w gb g s w3_) := Aside0.mk ⟨HG.out, blk_grown HR.out hgrow (fun e => blk_ne HT.out HR.out (by decide) (by injection e with e; exact e.symm)), blk_grown HX.out hgrow (fun e => blk_ne HT.out HX.out (by decide) (by injection e with e; exact e.symm)), HL.out.grown hgrow HL.out.size (fun k hk => by injection hk with hk; subst hk; exact HGT.out)⟩; clear hcell hgrow; obtain ⟨s0, s1, s2, s3, s4, s5⟩ := HF.out.facts; obtain ⟨a0, a1, a2, a3, a4, a5, b0, b1, b2, b3, b4, b5⟩ := HF.out.rfacts)
    | (go_at_call 103; refine (heldLt_calls s c g _ hc HF.out.st).mono ?_; rintro e w1 ⟨rfl, hb⟩; have HF := Aside0.mk (Fr.step (by (with_reducible repeat (first | exact HF.out | apply Fr.alloc | apply Fr.drew | apply Fr.drewN))) hb); clear hb; obtain ⟨s0, s1, s2, s3, s4, s5⟩ := HF.out.facts; obtain ⟨a0, a1, a2, a3, a4, a5, b0, b1, b2, b3, b4, b5⟩ := HF.out.rfacts))
  exact HF.out.ret rfl rfl rfl
set_option maxHeartbeats 1600000 in
theorem step21_calls (s : St) (c : Nat) (w : World) (hc : c < 256) (hp : s.pos = 21) (hs : s.held.size ≤ 4611686018427387904) : Calls Tryz.prog 47 #[.agg #[.int .i64 s.pos, .string s.name, .bool s.fin, .string s.attr, .string s.held, .int .i64 s.read], .int .u8 c] w (RetS (readsS s c 0) w) := by
  have hu40 := Tryz.underlying44
  go_enter Tryz.func47, Tryz.ntmps47
  go_wp2_with (first
    | ((with_reducible refine gate_dst (N := 2) rfl ?_); refine box_event ?hg (N := 2) ?hd (cs := #[.int .i64 s.pos, .string s.name, .bool s.fin, .string s.attr, .string s.held, .int .i64 s.read]) (t := 44) ?hr ?_; (case hd => rfl); (case hg => rfl); (case hr => first | (go_simp; done) | (go_simp; rfl)); intro g hg w0_ hbox hb; have HX := Aside0.mk (show StAt w0_ g s from hbox); have HL := Aside0.mk hb; clear hg hbox hb)
    | ((with_reducible refine gate_dst (N := 4) rfl ?_); refine box_event ?hg (N := 4) ?hd (cs := #[.int .i64 0, .string ⟨#[]⟩, .bool false, .string ⟨#[]⟩, .string ⟨#[]⟩, .int .i64 0]) (t := 44) ?hr ?_; (case hd => rfl); (case hg => rfl); (case hr => first | (go_simp; done) | (go_simp; rfl)); intro gb hgb w1_ hbox hb; have HG := Aside0.mk (show w.heap.size ≤ gb by rw [hgb]; exact HL.out.size); have HX := Aside0.mk (HX.out.below hb); have HR := Aside0.mk hbox; have HL := Aside0.mk (HL.out.trans (hb.mono HL.out.size)); clear hgb hbox hb)
    | ((with_reducible refine gate_dst (N := 5) rfl ?_); refine box_event ?hg (N := 5) ?hd (cs := #[.nilFunc, .nilFunc, .nilFunc, .nilFunc, .nilFunc, .nilFunc, .nilFunc, .nilFunc, .nilFunc, .nilFunc, .nilFunc, .nilFunc, .nilFunc, .nilFunc, .nilFunc, .nilFunc, .nilFunc, .nilFunc, .nilFunc, .nilFunc, .nilFunc, .nilFunc, .nilFunc]) (t := 121) ?hr ?_; (case hd => rfl); (case hg => rfl); (case hr => first | (go_simp; done) | (go_simp; rfl)); intro gt hgt w2_ hbox hb; have HT := Aside0.mk hbox; have HGT := Aside0.mk (show w.heap.size ≤ gt by rw [hgt]; exact HL.out.size); have HX := Aside0.mk (HX.out.below hb); have HR := Aside0.mk (blk_below HR.out hb); have HL := Aside0.mk (HL.out.trans (hb.mono HL.out.size)); clear hgt hbox hb)
    | ((with_reducible refine gate_store (t := 121) (p := 5) rfl ?_); refine store_row ?h1 121 (.tmp 5) (.tmp 6) ?h2 gt #[.func (.func 85) #[] #[], .func (.func 86) #[] #[], .func (.func 87) #[] #[], .func (.func 88) #[] #[], .func (.func 89) #[] #[], .func (.func 90) #[] #[], .func (.func 91) #[] #[], .func (.func 92) #[] #[], .func (.func 93) #[] #[], .func (.func 94) #[] #[], .func (.func 95) #[] #[], .func (.func 89) #[] #[], .func (.func 89) #[] #[], .func (.func 96) #[] #[], .func (.func 97) #[] #[], .func (.func 98) #[] #[], .func (.func 99) #[] #[], .func (.func 100) #[] #[], .func (.func 101) #[] #[], .func (.func 102) #[] #[], .func (.func 103) #[] #[], .func (.func 104) #[] #[], .func (.func 105) #[] #[]] ?h3 ?h4 ?h5 ?h6 HT.out ?h7 ?_; (case h1 => rfl); (case h2 => rfl); (case h3 => rfl); (case h4 => rfl); (case h5 => kernel_rfl); (case h6 => simp [Value.oneCell']); (case h7 => rfl); intro w3_ hcell hgrow; have hk := hcell 21 (.func (.func 104) #[] #[]) rfl; have HF : Aside0 (Fr w gb g s w3_) := Aside0.mk ⟨HG.out, blk_grown HR.out hgrow (fun e => blk_ne HT.out HR.out (by decide) (by injection e with e; exact e.symm)), blk_grown HX.out hgrow (fun e => blk_ne HT.out HX.out (by decide) (by injection e with e; exact e.symm)), HL.out.grown hgrow HL.out.size (fun k hk => by injection hk with hk; subst hk; exact HGT.out)⟩; clear hcell hgrow; obtain ⟨s0, s1, s2, s3, s4, s5⟩ := HF.out.facts; obtain ⟨a0, a1, a2, a3, a4, a5, b0, b1, b2, b3, b4, b5⟩ := HF.out.rfacts)
    | (go_at_call 104; refine (heldSlash_calls s c g _ hc HF.out.st hs).mono ?_; rintro e w1 ⟨rfl, hb⟩; have HF := Aside0.mk (Fr.step (by (with_reducible repeat (first | exact HF.out | apply Fr.alloc | apply Fr.drew | apply Fr.drewN))) hb); clear hb; obtain ⟨s0, s1, s2, s3, s4, s5⟩ := HF.out.facts; obtain ⟨a0, a1, a2, a3, a4, a5, b0, b1, b2, b3, b4, b5⟩ := HF.out.rfacts))
  exact HF.out.ret rfl rfl rfl
set_option maxHeartbeats 1600000 in
theorem step22_calls (s : St) (c : Nat) (w : World) (hc : c < 256) (hp : s.pos = 22) (hs : s.held.size ≤ 4611686018427387904) : Calls Tryz.prog 47 #[.agg #[.int .i64 s.pos, .string s.name, .bool s.fin, .string s.attr, .string s.held, .int .i64 s.read], .int .u8 c] w (RetS (heldNameS s c) w) := by
  have hu40 := Tryz.underlying44
  go_enter Tryz.func47, Tryz.ntmps47
  go_wp2_with (first
    | ((with_reducible refine gate_dst (N := 2) rfl ?_); refine box_event ?hg (N := 2) ?hd (cs := #[.int .i64 s.pos, .string s.name, .bool s.fin, .string s.attr, .string s.held, .int .i64 s.read]) (t := 44) ?hr ?_; (case hd => rfl); (case hg => rfl); (case hr => first | (go_simp; done) | (go_simp; rfl)); intro g hg w0_ hbox hb; have HX := Aside0.mk (show StAt w0_ g s from hbox); have HL := Aside0.mk hb; clear hg hbox hb)
    | ((with_reducible refine gate_dst (N := 4) rfl ?_); refine box_event ?hg (N := 4) ?hd (cs := #[.int .i64 0, .string ⟨#[]⟩, .bool false, .string ⟨#[]⟩, .string ⟨#[]⟩, .int .i64 0]) (t := 44) ?hr ?_; (case hd => rfl); (case hg => rfl); (case hr => first | (go_simp; done) | (go_simp; rfl)); intro gb hgb w1_ hbox hb; have HG := Aside0.mk (show w.heap.size ≤ gb by rw [hgb]; exact HL.out.size); have HX := Aside0.mk (HX.out.below hb); have HR := Aside0.mk hbox; have HL := Aside0.mk (HL.out.trans (hb.mono HL.out.size)); clear hgb hbox hb)
    | ((with_reducible refine gate_dst (N := 5) rfl ?_); refine box_event ?hg (N := 5) ?hd (cs := #[.nilFunc, .nilFunc, .nilFunc, .nilFunc, .nilFunc, .nilFunc, .nilFunc, .nilFunc, .nilFunc, .nilFunc, .nilFunc, .nilFunc, .nilFunc, .nilFunc, .nilFunc, .nilFunc, .nilFunc, .nilFunc, .nilFunc, .nilFunc, .nilFunc, .nilFunc, .nilFunc]) (t := 121) ?hr ?_; (case hd => rfl); (case hg => rfl); (case hr => first | (go_simp; done) | (go_simp; rfl)); intro gt hgt w2_ hbox hb; have HT := Aside0.mk hbox; have HGT := Aside0.mk (show w.heap.size ≤ gt by rw [hgt]; exact HL.out.size); have HX := Aside0.mk (HX.out.below hb); have HR := Aside0.mk (blk_below HR.out hb); have HL := Aside0.mk (HL.out.trans (hb.mono HL.out.size)); clear hgt hbox hb)
    | ((with_reducible refine gate_store (t := 121) (p := 5) rfl ?_); refine store_row ?h1 121 (.tmp 5) (.tmp 6) ?h2 gt #[.func (.func 85) #[] #[], .func (.func 86) #[] #[], .func (.func 87) #[] #[], .func (.func 88) #[] #[], .func (.func 89) #[] #[], .func (.func 90) #[] #[], .func (.func 91) #[] #[], .func (.func 92) #[] #[], .func (.func 93) #[] #[], .func (.func 94) #[] #[], .func (.func 95) #[] #[], .func (.func 89) #[] #[], .func (.func 89) #[] #[], .func (.func 96) #[] #[], .func (.func 97) #[] #[], .func (.func 98) #[] #[], .func (.func 99) #[] #[], .func (.func 100) #[] #[], .func (.func 101) #[] #[], .func (.func 102) #[] #[], .func (.func 103) #[] #[], .func (.func 104) #[] #[], .func (.func 105) #[] #[]] ?h3 ?h4 ?h5 ?h6 HT.out ?h7 ?_; (case h1 => rfl); (case h2 => rfl); (case h3 => rfl); (case h4 => rfl); (case h5 => kernel_rfl); (case h6 => simp [Value.oneCell']); (case h7 => rfl); intro w3_ hcell hgrow; have hk := hcell 22 (.func (.func 105) #[] #[]) rfl; have HF : Aside0 (Fr w gb g s w3_) := Aside0.mk ⟨HG.out, blk_grown HR.out hgrow (fun e => blk_ne HT.out HR.out (by decide) (by injection e with e; exact e.symm)), blk_grown HX.out hgrow (fun e => blk_ne HT.out HX.out (by decide) (by injection e with e; exact e.symm)), HL.out.grown hgrow HL.out.size (fun k hk => by injection hk with hk; subst hk; exact HGT.out)⟩; clear hcell hgrow; obtain ⟨s0, s1, s2, s3, s4, s5⟩ := HF.out.facts; obtain ⟨a0, a1, a2, a3, a4, a5, b0, b1, b2, b3, b4, b5⟩ := HF.out.rfacts)
    | (go_at_call 105; refine (heldName_calls s c g _ hc HF.out.st hs).mono ?_; rintro e w1 ⟨rfl, hb⟩; have HF := Aside0.mk (Fr.step (by (with_reducible repeat (first | exact HF.out | apply Fr.alloc | apply Fr.drew | apply Fr.drewN))) hb); clear hb; obtain ⟨s0, s1, s2, s3, s4, s5⟩ := HF.out.facts; obtain ⟨a0, a1, a2, a3, a4, a5, b0, b1, b2, b3, b4, b5⟩ := HF.out.rfacts))
  exact HF.out.ret rfl rfl rfl
end Go.Proofs.YtfmcdlbbbmeolaaGreatDoor.Tk
end
section
namespace Go.Proofs.YtfmcdlbbbmeolaaGreatDoor.Tk
open Go.RowKit Go.Proofs.YtfmcdlbbbmeolaaGreatDoorW.PrintWords Go.Proofs.YtfmcdlbbbmeolaaGreatDoorW.PrintLast Go.Proofs.YtfmcdlbbbmeolaaGreatDoorW.PrintMore
open Go.Proofs.YtfmcdlbbbmeolaaGreatDoor.Refs (lowN)
set_option linter.unusedVariables false
set_option maxRecDepth 100000
def stepS (s : St) (c : Nat) : St :=
  if s.pos = 0 then dataS c else
  if s.pos = 1 then tagOpenS c else
  if s.pos = 2 then endOpenS c else
  if s.pos = 3 then tagNameS s c else
  if s.pos = 4 then beginsS s c else
  if s.pos = 5 then namesS s c s.attr else
  if s.pos = 6 then namesS s c ⟨#[]⟩ else
  if s.pos = 7 then beforeValueS s c else
  if s.pos = 8 then quotedS s c 34 else
  if s.pos = 9 then quotedS s c 39 else
  if s.pos = 10 then bareS s c else
  if s.pos = 11 then beginsS s c else
  if s.pos = 12 then beginsS s c else
  if s.pos = 13 then bangsS c 14 else
  if s.pos = 14 then bangsS c 15 else
  if s.pos = 15 then commentS c else
  if s.pos = 16 then commentDashS c else
  if s.pos = 17 then commentEndS c else
  if s.pos = 18 then bogusS c else
  if s.pos = 19 then holdsS s c else
  if s.pos = 20 then heldLtS s c else
  if s.pos = 21 then readsS s c 0 else
  heldNameS s c
theorem stepS_0 {s : St} (c : Nat) (h : s.pos = 0) : stepS s c = dataS c := by unfold stepS; simp only [h]; rfl
theorem stepS_1 {s : St} (c : Nat) (h : s.pos = 1) : stepS s c = tagOpenS c := by unfold stepS; simp only [h]; rfl
theorem stepS_2 {s : St} (c : Nat) (h : s.pos = 2) : stepS s c = endOpenS c := by unfold stepS; simp only [h]; rfl
theorem stepS_3 {s : St} (c : Nat) (h : s.pos = 3) : stepS s c = tagNameS s c := by unfold stepS; simp only [h]; rfl
theorem stepS_4 {s : St} (c : Nat) (h : s.pos = 4) : stepS s c = beginsS s c := by unfold stepS; simp only [h]; rfl
theorem stepS_5 {s : St} (c : Nat) (h : s.pos = 5) : stepS s c = namesS s c s.attr := by unfold stepS; simp only [h]; rfl
theorem stepS_6 {s : St} (c : Nat) (h : s.pos = 6) : stepS s c = namesS s c ⟨#[]⟩ := by unfold stepS; simp only [h]; rfl
theorem stepS_7 {s : St} (c : Nat) (h : s.pos = 7) : stepS s c = beforeValueS s c := by unfold stepS; simp only [h]; rfl
theorem stepS_8 {s : St} (c : Nat) (h : s.pos = 8) : stepS s c = quotedS s c 34 := by unfold stepS; simp only [h]; rfl
theorem stepS_9 {s : St} (c : Nat) (h : s.pos = 9) : stepS s c = quotedS s c 39 := by unfold stepS; simp only [h]; rfl
theorem stepS_10 {s : St} (c : Nat) (h : s.pos = 10) : stepS s c = bareS s c := by unfold stepS; simp only [h]; rfl
theorem stepS_11 {s : St} (c : Nat) (h : s.pos = 11) : stepS s c = beginsS s c := by unfold stepS; simp only [h]; rfl
theorem stepS_12 {s : St} (c : Nat) (h : s.pos = 12) : stepS s c = beginsS s c := by unfold stepS; simp only [h]; rfl
theorem stepS_13 {s : St} (c : Nat) (h : s.pos = 13) : stepS s c = bangsS c 14 := by unfold stepS; simp only [h]; rfl
theorem stepS_14 {s : St} (c : Nat) (h : s.pos = 14) : stepS s c = bangsS c 15 := by unfold stepS; simp only [h]; rfl
theorem stepS_15 {s : St} (c : Nat) (h : s.pos = 15) : stepS s c = commentS c := by unfold stepS; simp only [h]; rfl
theorem stepS_16 {s : St} (c : Nat) (h : s.pos = 16) : stepS s c = commentDashS c := by unfold stepS; simp only [h]; rfl
theorem stepS_17 {s : St} (c : Nat) (h : s.pos = 17) : stepS s c = commentEndS c := by unfold stepS; simp only [h]; rfl
theorem stepS_18 {s : St} (c : Nat) (h : s.pos = 18) : stepS s c = bogusS c := by unfold stepS; simp only [h]; rfl
theorem stepS_19 {s : St} (c : Nat) (h : s.pos = 19) : stepS s c = holdsS s c := by unfold stepS; simp only [h]; rfl
theorem stepS_20 {s : St} (c : Nat) (h : s.pos = 20) : stepS s c = heldLtS s c := by unfold stepS; simp only [h]; rfl
theorem stepS_21 {s : St} (c : Nat) (h : s.pos = 21) : stepS s c = readsS s c 0 := by unfold stepS; simp only [h]; rfl
theorem stepS_22 {s : St} (c : Nat) (h : s.pos = 22) : stepS s c = heldNameS s c := by unfold stepS; simp only [h]; rfl
theorem step_calls (s : St) (c : Nat) (w : World) (hc : c < 256) (h0 : 0 ≤ s.pos) (h1 : s.pos ≤ 22) (hs : s.held.size ≤ 4611686018427387904) : Calls Tryz.prog 47 #[.agg #[.int .i64 s.pos, .string s.name, .bool s.fin, .string s.attr, .string s.held, .int .i64 s.read], .int .u8 c] w (RetS (stepS s c) w) := by
  have hk : ∃ k : Nat, k ≤ 22 ∧ s.pos = k := ⟨s.pos.toNat, by omega, by omega⟩
  obtain ⟨k, hk, hp⟩ := hk
  have hcases : k = 0 ∨ k = 1 ∨ k = 2 ∨ k = 3 ∨ k = 4 ∨ k = 5 ∨ k = 6 ∨ k = 7 ∨ k = 8 ∨ k = 9 ∨ k = 10 ∨ k = 11 ∨ k = 12 ∨ k = 13 ∨ k = 14 ∨ k = 15 ∨ k = 16 ∨ k = 17 ∨ k = 18 ∨ k = 19 ∨ k = 20 ∨ k = 21 ∨ k = 22 := by omega
  rcases hcases with rfl | rfl | rfl | rfl | rfl | rfl | rfl | rfl | rfl | rfl | rfl | rfl | rfl | rfl | rfl | rfl | rfl | rfl | rfl | rfl | rfl | rfl | rfl
  · rw [stepS_0 c hp]; exact step0_calls s c w hc hp hs
  · rw [stepS_1 c hp]; exact step1_calls s c w hc hp hs
  · rw [stepS_2 c hp]; exact step2_calls s c w hc hp hs
  · rw [stepS_3 c hp]; exact step3_calls s c w hc hp hs
  · rw [stepS_4 c hp]; exact step4_calls s c w hc hp hs
  · rw [stepS_5 c hp]; exact step5_calls s c w hc hp hs
  · rw [stepS_6 c hp]; exact step6_calls s c w hc hp hs
  · rw [stepS_7 c hp]; exact step7_calls s c w hc hp hs
  · rw [stepS_8 c hp]; exact step8_calls s c w hc hp hs
  · rw [stepS_9 c hp]; exact step9_calls s c w hc hp hs
  · rw [stepS_10 c hp]; exact step10_calls s c w hc hp hs
  · rw [stepS_11 c hp]; exact step11_calls s c w hc hp hs
  · rw [stepS_12 c hp]; exact step12_calls s c w hc hp hs
  · rw [stepS_13 c hp]; exact step13_calls s c w hc hp hs
  · rw [stepS_14 c hp]; exact step14_calls s c w hc hp hs
  · rw [stepS_15 c hp]; exact step15_calls s c w hc hp hs
  · rw [stepS_16 c hp]; exact step16_calls s c w hc hp hs
  · rw [stepS_17 c hp]; exact step17_calls s c w hc hp hs
  · rw [stepS_18 c hp]; exact step18_calls s c w hc hp hs
  · rw [stepS_19 c hp]; exact step19_calls s c w hc hp hs
  · rw [stepS_20 c hp]; exact step20_calls s c w hc hp hs
  · rw [stepS_21 c hp]; exact step21_calls s c w hc hp hs
  · rw [stepS_22 c hp]; exact step22_calls s c w hc hp hs
end Go.Proofs.YtfmcdlbbbmeolaaGreatDoor.Tk
end
section
namespace Go.Proofs.YtfmcdlbbbmeolaaGreatDoor.Bld
open Go.Shelf Go.RowKit Go.Proofs.YtfmcdlbbbmeolaaGreatDoorW.PrintWords Go.Proofs.YtfmcdlbbbmeolaaGreatDoorW.PrintLast Go.Proofs.YtfmcdlbbbmeolaaGreatDoorW.PrintMore
attribute [local go_sem ↓] Go.wp_at_zero Go.wp_at_succ
set_option linter.unusedVariables false
set_option linter.unusedSimpArgs false
set_option maxRecDepth 100000
theorem cell_new {w : World} {a : Addr} {v : Value} (h : w.cell? a = some v) (o : Obj) : (w.alloc o).cell? a = some v := pw_cell_below ((Below.refl _ _).alloc (Nat.le_refl _) o) h
set_option maxHeartbeats 3200000 in
theorem grow_fresh (B b n : Nat) (w : World) (hB : B ≤ b) (hbk : w.heap[b]? = some (.cells #[.pointer (some ⟨b, 0, none⟩), .slice none 0 0] 108 (0, 0))) (hBw : B ≤ w.heap.size) (hn : n ≤ 281474976710656) :
    Calls Tryz.prog 228 #[.pointer (some ⟨b, 0, none⟩), .int .i64 (n : Int)] w fun e w' => e = .returned (.tuple #[]) ∧ Lib.BuilderAt 108 5 B b (.pointer (some ⟨b, 0, none⟩)) [] w' ∧ Below B w w' := by
  obtain ⟨cs, hrun, hle, hmax⟩ := Lib.run_makeNoZero (P := Tryz.prog) w.drew #[3] 37 5 Tryz.underlying37 n hn
  have hw0 : wrap64 (wrap64 0 + (n : Int)) = n := by unfold wrap64; omega
  have hB3 : Below w.heap.size w (w.alloc (.cells cs 5)).drew.drew.drew := below_drew (below_drew (below_drew (below_alloc (Below.refl w.heap.size w) _)))
  have hcall : (callFunc 245 #[.int .i64 (n : Int)]).run Tryz.prog w.drew = .ok (.value (.slice (some ⟨w.drew.heap.size, 0, none⟩) n cs.size)) (w.drew.drew.drew.alloc (.cells cs 5)) := by
    rw [run_callFunc_extern Tryz.func245 (by kernel_rfl) (by kernel_rfl) (by kernel_rfl) (e := Extern.BytealgMakeNoZero.makeNoZero #[3] #[37]) (by kernel_rfl), hrun]
    rfl
  have hcopy : ∀ W : World, (Builtin.copy_ #[37, 37] 3 #[.slice (some ⟨w.heap.size, 0, none⟩) 0 cs.size, .slice none 0 0]).run Tryz.prog W = .ok (goInt 0) W :=
    fun W => run_copy_none W 37 37 3 5 _ _ 0 cs.size 0 0 Tryz.underlying37 (by kernel_rfl) rfl
  have c1 : w.cell? ⟨b, 1, none⟩ = some (.slice none 0 0) := (blk_cell hbk 1).trans rfl
  have c2 := cell_new c1 (.cells cs 5)
  have f2 : (w.alloc (.cells cs 5)).frozen? ⟨b, 1, none⟩ = false := blk_frozen (blk_alloc hbk _) 1
  have HFin := Aside0.mk (Lib.grown_fresh (T := 108) (e := 5) (cs := cs) hB hbk hBw (hmax (by unfold maxLen; omega)) (by decide))
  clear hbk hB hBw hrun hle hmax
  go_enter Tryz.func228, Tryz.ntmps228
  go_wp2
  refine start_ (n := 16) (S := fun w' => w'.cell? ⟨b, 1, none⟩ = some (.slice none 0 0)) (ds := []) #[false, false, false, false, false, false, false, false, false, false, false, false, false, false, false, false] (by kernel_rfl) rfl rfl (c1) (fun hHeld => ?_)
  refine pS 0 5 #[true, false, false, false, false, false, false, false, false, false, false, false, false, false, false, false] ?_
  refine pS 1 6 #[true, true, false, false, false, false, false, false, false, false, false, false, false, false, false, false] ?_
  refine pS 2 7 #[true, true, true, false, false, false, false, false, false, false, false, false, false, false, false, false] ?_
  refine pS 6 11 #[true, true, true, false, false, false, true, false, false, false, false, false, false, false, false, false] ?_
  refine pS 9 14 #[true, true, true, false, false, false, true, false, false, true, false, false, false, false, false, false] ?_
  refine pS 10 15 #[true, true, true, false, false, false, true, false, false, true, true, false, false, false, false, false] ?_
  refine pS 11 16 #[true, true, true, false, false, false, true, false, false, true, true, true, false, false, false, false] ?_
  refine tS 3 8 #[true, true, true, true, false, false, true, false, false, true, true, true, false, false, false, false] hHeld ?_
  refine pS 4 9 #[true, true, true, true, true, false, true, false, false, true, true, true, false, false, false, false] ?_
  refine pS 5 10 #[true, true, true, true, true, true, true, false, false, true, true, true, false, false, false, false] ?_
  refine pS 7 12 #[true, true, true, true, true, true, true, true, false, true, true, true, false, false, false, false] ?_
  refine tS 12 17 #[true, true, true, true, true, true, true, true, false, true, true, true, true, false, false, false] hHeld ?_
  refine pS 13 18 #[true, true, true, true, true, true, true, true, false, true, true, true, true, true, false, false] ?_
  refine one_ (i := 8) (N := some 13) #[true, true, true, true, true, true, true, true, true, true, true, true, true, true, false, false] rfl rfl (by kernel_rfl) (by decide) (fun K hK => ?_)
  refine value_ (w1 := ?_) (v := ?_) (by rfl) rfl ?_ ?_
  rotate_left 2
  · go_simp
    constructor
    · rfl
    · rfl
  refine hK.out _ _ ((pw_cell_below hB3 c1)) (fun hHeld => ?_)
  clear hK K
  refine norm_ (a' := ?_) ?_ ?_
  rotate_left
  · show Act.put _ (some 13) _ = _
    simp only [Act.put, zA, zZ, zS, i64_w, i32_w]
    rfl
  refine pS 14 19 #[true, true, true, true, true, true, true, true, true, true, true, true, true, true, true, false] ?_
  refine pS 15 4 #[true, true, true, true, true, true, true, true, true, true, true, true, true, true, true, true] ?_
  refine done_ (by kernel_rfl) ?_
  go_wp2
  go_end0
  exact ⟨rfl, HFin.out⟩
set_option maxHeartbeats 3200000 in
theorem Grow_fresh (B b n : Nat) (w : World) (hB : B ≤ b) (hbk : w.heap[b]? = some (.cells #[.pointer none, .slice none 0 0] 108 (0, 0))) (hBw : B ≤ w.heap.size) (hn : n ≤ 281474976710656) :
    Calls Tryz.prog 202 #[.pointer (some ⟨b, 0, none⟩), .int .i64 (n : Int)] w fun e w' => e = .returned (.tuple #[]) ∧ Lib.BuilderAt 108 5 B b (.pointer (some ⟨b, 0, none⟩)) [] w' ∧ Below B w w' := by
  have HCc := Aside0.mk (copyCheck_fresh b w ((blk_cell hbk 0).trans rfl) (by simp [World.shape?, hbk]) (blk_frozen hbk 0))
  have b1 : (w.setCell ⟨b, 0, none⟩ (.pointer (some ⟨b, 0, none⟩))).heap[b]? = some (.cells #[.pointer (some ⟨b, 0, none⟩), .slice none 0 0] 108 (0, 0)) := blk_set hbk 0 _
  have hb1 : Below B w (w.setCell ⟨b, 0, none⟩ (.pointer (some ⟨b, 0, none⟩))) := (Below.refl B w).setCell (p := ⟨b, 0, none⟩) hB _
  have hs1 : B ≤ (w.setCell ⟨b, 0, none⟩ (.pointer (some ⟨b, 0, none⟩))).heap.size := Nat.le_trans hBw hb1.size
  obtain ⟨w1, hw1⟩ : ∃ w1, w.setCell ⟨b, 0, none⟩ (.pointer (some ⟨b, 0, none⟩)) = w1 := ⟨_, rfl⟩
  rw [hw1] at HCc b1 hb1 hs1
  have c1 : w1.cell? ⟨b, 1, none⟩ = some (.slice none 0 0) := (blk_cell b1 1).trans rfl
  have HG := Aside0.mk (fun m => grow_fresh B b n (w1.drewN m) hB b1 hs1 hn)
  have HU := Aside0.mk (show ∀ m, Lib.BuilderAt 108 5 B b (.pointer (some ⟨b, 0, none⟩)) [] (w1.drewN m) from fun m => ⟨hB, .slice none 0 0, b1, World.ownsRow_nil _ _ _ _, by simp [Value.ownBlock]⟩)
  have HB1 := Aside0.mk hb1
  clear hbk hB hBw hb1 hs1 b1 hw1 hn
  have nn : ((n : Int) < 0) = False := eq_false (by omega)
  by_cases h0 : 0 < n
  · skip
    go_enter Tryz.func202, Tryz.ntmps202
    go_wp2_with (go_at_call 128; refine HCc.out.mono ?_; rintro e w2 ⟨rfl, rfl⟩)
    go_quiet (fail)
    go_wp2_with (go_at_call 228; refine (HG.out _).mono ?_; rintro e w2 ⟨rfl, h1, h2⟩)
    go_end0
    exact ⟨rfl, h1, (pw_below_drewN HB1.out _).trans h2⟩
  · skip
    go_enter Tryz.func202, Tryz.ntmps202
    go_wp2_with (go_at_call 128; refine HCc.out.mono ?_; rintro e w2 ⟨rfl, rfl⟩)
    go_quiet (fail)
    go_wp2
    go_end0
    exact ⟨rfl, HU.out _, pw_below_drewN HB1.out _⟩
end Go.Proofs.YtfmcdlbbbmeolaaGreatDoor.Bld
end
