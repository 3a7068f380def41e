/- tok's functions of a state and a byte: walked. (Laid by gen_tk2.py, a program of this session.) tok.reads, heldSlash, heldName, Start, Step: walked. -/
import Derived.Test.YtfmcdlbbbmeolaaGreatDoorU0
import Derived.Test.YtfmcdlbbbmeolaaGreatDoorU5
section
namespace Go.Proofs.YtfmcdlbbbmeolaaGreatDoor.Tk
open Go.RowKit Go.Proofs.YtfmcdlbbbmeolaaGreatDoorW.PrintWords Go.Proofs.YtfmcdlbbbmeolaaGreatDoorW.PrintLast Go.Proofs.YtfmcdlbbbmeolaaGreatDoorW.PrintMore
open Go.Proofs.YtfmcdlbbbmeolaaGreatDoor.Refs (lowN lowByte_calls)
attribute [local go_sem ↓] Go.wp_at_zero Go.wp_at_succ
set_option linter.unusedVariables false
set_option linter.unusedSimpArgs false
set_option maxRecDepth 100000
set_option maxHeartbeats 1600000 in
theorem bangs_calls (c : Nat) (x : Int) (w : World) (hc : c < 256) : Calls Tryz.prog 160 #[.int .u8 c, .int .i64 x] w (RetS (bangsS c x) w) := by
  have hu40 := Tryz.underlying44
  by_cases q1 : c = 45
  · skip
    have d45 : ((c : Int) == 45) = true := by rw [beq_iff_eq]; omega
    have HD := Aside0.mk (show bangsS c x = atS x by unfold bangsS; rw [if_pos q1])
    clear q1
    go_enter Tryz.func160, Tryz.ntmps160
    go_wp2_with (first
      | ((with_reducible refine gate_dst (N := 4) rfl ?_); refine box_event ?hg (N := 4) ?hd (cs := #[.int .i64 0, .string ⟨#[]⟩, .bool false, .string ⟨#[]⟩, .string ⟨#[]⟩, .int .i64 0]) (t := 44) ?hr ?_; (case hd => rfl); (case hg => rfl); (case hr => first | (go_simp; done) | (go_simp; rfl)); intro gb hgb w0_ hbox hb; have HF := Aside0.mk (FrN.start hgb hbox hb); clear hgb hbox hb; obtain ⟨a0, a1, a2, a3, a4, a5, b0, b1, b2, b3, b4, b5⟩ := HF.out.rfacts)
      | (go_at_call 151; refine (at_calls _ _).mono ?_; rintro e w1 ⟨rfl, hb⟩; have HF := Aside0.mk (FrN.step (by (with_reducible repeat (first | exact HF.out | apply FrN.alloc | apply FrN.drew | apply FrN.drewN))) hb); clear hb; obtain ⟨a0, a1, a2, a3, a4, a5, b0, b1, b2, b3, b4, b5⟩ := HF.out.rfacts))
    rw [HD.out]
    exact HF.out.ret rfl rfl rfl
  · skip
    have d45 : ((c : Int) == 45) = false := by rw [beq_eq_false_iff_ne]; omega
    by_cases q2 : c = 62
    · skip
      have d62 : ((c : Int) == 62) = true := by rw [beq_iff_eq]; omega
      have HD := Aside0.mk (show bangsS c x = atS 0 by unfold bangsS; rw [if_neg q1, if_pos q2])
      clear q1 q2
      go_enter Tryz.func160, Tryz.ntmps160
      go_wp2_with (first
        | ((with_reducible refine gate_dst (N := 4) rfl ?_); refine box_event ?hg (N := 4) ?hd (cs := #[.int .i64 0, .string ⟨#[]⟩, .bool false, .string ⟨#[]⟩, .string ⟨#[]⟩, .int .i64 0]) (t := 44) ?hr ?_; (case hd => rfl); (case hg => rfl); (case hr => first | (go_simp; done) | (go_simp; rfl)); intro gb hgb w0_ hbox hb; have HF := Aside0.mk (FrN.start hgb hbox hb); clear hgb hbox hb; obtain ⟨a0, a1, a2, a3, a4, a5, b0, b1, b2, b3, b4, b5⟩ := HF.out.rfacts)
        | (go_at_call 151; refine (at_calls _ _).mono ?_; rintro e w1 ⟨rfl, hb⟩; have HF := Aside0.mk (FrN.step (by (with_reducible repeat (first | exact HF.out | apply FrN.alloc | apply FrN.drew | apply FrN.drewN))) hb); clear hb; obtain ⟨a0, a1, a2, a3, a4, a5, b0, b1, b2, b3, b4, b5⟩ := HF.out.rfacts))
      rw [HD.out]
      exact HF.out.ret rfl rfl rfl
    · skip
      have d62 : ((c : Int) == 62) = false := by rw [beq_eq_false_iff_ne]; omega
      have HD := Aside0.mk (show bangsS c x = atS 18 by unfold bangsS; rw [if_neg q1, if_neg q2])
      clear q1 q2
      go_enter Tryz.func160, Tryz.ntmps160
      go_wp2_with (first
        | ((with_reducible refine gate_dst (N := 4) rfl ?_); refine box_event ?hg (N := 4) ?hd (cs := #[.int .i64 0, .string ⟨#[]⟩, .bool false, .string ⟨#[]⟩, .string ⟨#[]⟩, .int .i64 0]) (t := 44) ?hr ?_; (case hd => rfl); (case hg => rfl); (case hr => first | (go_simp; done) | (go_simp; rfl)); intro gb hgb w0_ hbox hb; have HF := Aside0.mk (FrN.start hgb hbox hb); clear hgb hbox hb; obtain ⟨a0, a1, a2, a3, a4, a5, b0, b1, b2, b3, b4, b5⟩ := HF.out.rfacts)
        | (go_at_call 151; refine (at_calls _ _).mono ?_; rintro e w1 ⟨rfl, hb⟩; have HF := Aside0.mk (FrN.step (by (with_reducible repeat (first | exact HF.out | apply FrN.alloc | apply FrN.drew | apply FrN.drewN))) hb); clear hb; obtain ⟨a0, a1, a2, a3, a4, a5, b0, b1, b2, b3, b4, b5⟩ := HF.out.rfacts))
      rw [HD.out]
      exact HF.out.ret rfl rfl rfl
set_option maxHeartbeats 1600000 in
theorem either_calls (b : Bool) (x y : Int) (w : World) : Calls Tryz.prog 161 #[.bool b, .int .i64 x, .int .i64 y] w (RetS (eitherS b x y) w) := by
  have hu40 := Tryz.underlying44
  by_cases q1 : b = true
  · skip
    have db : b = true := q1
    have HD := Aside0.mk (show eitherS b x y = atS x by unfold eitherS; rw [if_pos q1])
    clear q1
    go_enter Tryz.func161, Tryz.ntmps161
    go_wp2_with (first
      | ((with_reducible refine gate_dst (N := 6) rfl ?_); refine box_event ?hg (N := 6) ?hd (cs := #[.int .i64 0, .string ⟨#[]⟩, .bool false, .string ⟨#[]⟩, .string ⟨#[]⟩, .int .i64 0]) (t := 44) ?hr ?_; (case hd => rfl); (case hg => rfl); (case hr => first | (go_simp; done) | (go_simp; rfl)); intro gb hgb w0_ hbox hb; have HF := Aside0.mk (FrN.start hgb hbox hb); clear hgb hbox hb; obtain ⟨a0, a1, a2, a3, a4, a5, b0, b1, b2, b3, b4, b5⟩ := HF.out.rfacts)
      | (go_at_call 151; refine (at_calls _ _).mono ?_; rintro e w1 ⟨rfl, hb⟩; have HF := Aside0.mk (FrN.step (by (with_reducible repeat (first | exact HF.out | apply FrN.alloc | apply FrN.drew | apply FrN.drewN))) hb); clear hb; obtain ⟨a0, a1, a2, a3, a4, a5, b0, b1, b2, b3, b4, b5⟩ := HF.out.rfacts))
    rw [HD.out]
    exact HF.out.ret rfl rfl rfl
  · skip
    have db : b = false := by simpa using q1
    have HD := Aside0.mk (show eitherS b x y = atS y by unfold eitherS; rw [if_neg q1])
    clear q1
    go_enter Tryz.func161, Tryz.ntmps161
    go_wp2_with (first
      | ((with_reducible refine gate_dst (N := 6) rfl ?_); refine box_event ?hg (N := 6) ?hd (cs := #[.int .i64 0, .string ⟨#[]⟩, .bool false, .string ⟨#[]⟩, .string ⟨#[]⟩, .int .i64 0]) (t := 44) ?hr ?_; (case hd => rfl); (case hg => rfl); (case hr => first | (go_simp; done) | (go_simp; rfl)); intro gb hgb w0_ hbox hb; have HF := Aside0.mk (FrN.start hgb hbox hb); clear hgb hbox hb; obtain ⟨a0, a1, a2, a3, a4, a5, b0, b1, b2, b3, b4, b5⟩ := HF.out.rfacts)
      | (go_at_call 151; refine (at_calls _ _).mono ?_; rintro e w1 ⟨rfl, hb⟩; have HF := Aside0.mk (FrN.step (by (with_reducible repeat (first | exact HF.out | apply FrN.alloc | apply FrN.drew | apply FrN.drewN))) hb); clear hb; obtain ⟨a0, a1, a2, a3, a4, a5, b0, b1, b2, b3, b4, b5⟩ := HF.out.rfacts))
    rw [HD.out]
    exact HF.out.ret rfl rfl rfl
set_option maxHeartbeats 1600000 in
theorem bang_calls (s : St) (c : Nat) (g : Nat) (w : World) (hc : c < 256) (h : StAt w g s) : Calls Tryz.prog 96 #[.pointer (some ⟨g, 0, none⟩), .int .u8 c] w (RetS (bangsS c 14) w) := by
  have hu40 := Tryz.underlying44
  have HS := Aside0.mk h
  clear h
  go_enter Tryz.func96, Tryz.ntmps96
  go_wp2_with (first
    | ((with_reducible refine gate_dst (N := 4) rfl ?_); refine box_event ?hg (N := 4) ?hd (cs := #[.int .i64 0, .string ⟨#[]⟩, .bool false, .string ⟨#[]⟩, .string ⟨#[]⟩, .int .i64 0]) (t := 44) ?hr ?_; (case hd => rfl); (case hg => rfl); (case hr => first | (go_simp; done) | (go_simp; rfl)); intro gb hgb w0_ hbox hb; have HF := Aside0.mk (Fr.start HS.out hgb hbox hb); clear hgb hbox hb; obtain ⟨s0, s1, s2, s3, s4, s5⟩ := HF.out.facts; obtain ⟨a0, a1, a2, a3, a4, a5, b0, b1, b2, b3, b4, b5⟩ := HF.out.rfacts)
    | (go_at_call 160; refine (bangs_calls c _ _ (by omega)).mono ?_; rintro e w1 ⟨rfl, hb⟩; have HF := Aside0.mk (Fr.step (by (with_reducible repeat (first | exact HF.out | apply Fr.alloc | apply Fr.drew | apply Fr.drewN))) hb); clear hb; obtain ⟨s0, s1, s2, s3, s4, s5⟩ := HF.out.facts; obtain ⟨a0, a1, a2, a3, a4, a5, b0, b1, b2, b3, b4, b5⟩ := HF.out.rfacts))
  exact HF.out.ret rfl rfl rfl
set_option maxHeartbeats 1600000 in
theorem bangDash_calls (s : St) (c : Nat) (g : Nat) (w : World) (hc : c < 256) (h : StAt w g s) : Calls Tryz.prog 97 #[.pointer (some ⟨g, 0, none⟩), .int .u8 c] w (RetS (bangsS c 15) w) := by
  have hu40 := Tryz.underlying44
  have HS := Aside0.mk h
  clear h
  go_enter Tryz.func97, Tryz.ntmps97
  go_wp2_with (first
    | ((with_reducible refine gate_dst (N := 4) rfl ?_); refine box_event ?hg (N := 4) ?hd (cs := #[.int .i64 0, .string ⟨#[]⟩, .bool false, .string ⟨#[]⟩, .string ⟨#[]⟩, .int .i64 0]) (t := 44) ?hr ?_; (case hd => rfl); (case hg => rfl); (case hr => first | (go_simp; done) | (go_simp; rfl)); intro gb hgb w0_ hbox hb; have HF := Aside0.mk (Fr.start HS.out hgb hbox hb); clear hgb hbox hb; obtain ⟨s0, s1, s2, s3, s4, s5⟩ := HF.out.facts; obtain ⟨a0, a1, a2, a3, a4, a5, b0, b1, b2, b3, b4, b5⟩ := HF.out.rfacts)
    | (go_at_call 160; refine (bangs_calls c _ _ (by omega)).mono ?_; rintro e w1 ⟨rfl, hb⟩; have HF := Aside0.mk (Fr.step (by (with_reducible repeat (first | exact HF.out | apply Fr.alloc | apply Fr.drew | apply Fr.drewN))) hb); clear hb; obtain ⟨s0, s1, s2, s3, s4, s5⟩ := HF.out.facts; obtain ⟨a0, a1, a2, a3, a4, a5, b0, b1, b2, b3, b4, b5⟩ := HF.out.rfacts))
  exact HF.out.ret rfl rfl rfl
set_option maxHeartbeats 1600000 in
theorem comment_calls (s : St) (c : Nat) (g : Nat) (w : World) (hc : c < 256) (h : StAt w g s) : Calls Tryz.prog 98 #[.pointer (some ⟨g, 0, none⟩), .int .u8 c] w (RetS (commentS c) w) := by
  have hu40 := Tryz.underlying44
  have HS := Aside0.mk h
  clear h
  by_cases q1 : c = 45
  · skip
    have d45 : ((c : Int) == 45) = true := by rw [beq_iff_eq]; omega
    have HD := Aside0.mk (show commentS c = eitherS true 16 15 by unfold commentS; rw [if_pos q1])
    clear q1
    go_enter Tryz.func98, Tryz.ntmps98
    go_wp2_with (first
      | ((with_reducible refine gate_dst (N := 4) rfl ?_); refine box_event ?hg (N := 4) ?hd (cs := #[.int .i64 0, .string ⟨#[]⟩, .bool false, .string ⟨#[]⟩, .string ⟨#[]⟩, .int .i64 0]) (t := 44) ?hr ?_; (case hd => rfl); (case hg => rfl); (case hr => first | (go_simp; done) | (go_simp; rfl)); intro gb hgb w0_ hbox hb; have HF := Aside0.mk (Fr.start HS.out hgb hbox hb); clear hgb hbox hb; obtain ⟨s0, s1, s2, s3, s4, s5⟩ := HF.out.facts; obtain ⟨a0, a1, a2, a3, a4, a5, b0, b1, b2, b3, b4, b5⟩ := HF.out.rfacts)
      | (go_at_call 161; refine (either_calls _ _ _ _).mono ?_; rintro e w1 ⟨rfl, hb⟩; have HF := Aside0.mk (Fr.step (by (with_reducible repeat (first | exact HF.out | apply Fr.alloc | apply Fr.drew | apply Fr.drewN))) hb); clear hb; obtain ⟨s0, s1, s2, s3, s4, s5⟩ := HF.out.facts; obtain ⟨a0, a1, a2, a3, a4, a5, b0, b1, b2, b3, b4, b5⟩ := HF.out.rfacts))
    rw [HD.out]
    exact HF.out.ret rfl rfl rfl
  · skip
    have d45 : ((c : Int) == 45) = false := by rw [beq_eq_false_iff_ne]; omega
    have HD := Aside0.mk (show commentS c = eitherS false 16 15 by unfold commentS; rw [if_neg q1])
    clear q1
    go_enter Tryz.func98, Tryz.ntmps98
    go_wp2_with (first
      | ((with_reducible refine gate_dst (N := 4) rfl ?_); refine box_event ?hg (N := 4) ?hd (cs := #[.int .i64 0, .string ⟨#[]⟩, .bool false, .string ⟨#[]⟩, .string ⟨#[]⟩, .int .i64 0]) (t := 44) ?hr ?_; (case hd => rfl); (case hg => rfl); (case hr => first | (go_simp; done) | (go_simp; rfl)); intro gb hgb w0_ hbox hb; have HF := Aside0.mk (Fr.start HS.out hgb hbox hb); clear hgb hbox hb; obtain ⟨s0, s1, s2, s3, s4, s5⟩ := HF.out.facts; obtain ⟨a0, a1, a2, a3, a4, a5, b0, b1, b2, b3, b4, b5⟩ := HF.out.rfacts)
      | (go_at_call 161; refine (either_calls _ _ _ _).mono ?_; rintro e w1 ⟨rfl, hb⟩; have HF := Aside0.mk (Fr.step (by (with_reducible repeat (first | exact HF.out | apply Fr.alloc | apply Fr.drew | apply Fr.drewN))) hb); clear hb; obtain ⟨s0, s1, s2, s3, s4, s5⟩ := HF.out.facts; obtain ⟨a0, a1, a2, a3, a4, a5, b0, b1, b2, b3, b4, b5⟩ := HF.out.rfacts))
    rw [HD.out]
    exact HF.out.ret rfl rfl rfl
set_option maxHeartbeats 1600000 in
theorem commentDash_calls (s : St) (c : Nat) (g : Nat) (w : World) (hc : c < 256) (h : StAt w g s) : Calls Tryz.prog 99 #[.pointer (some ⟨g, 0, none⟩), .int .u8 c] w (RetS (commentDashS c) w) := by
  have hu40 := Tryz.underlying44
  have HS := Aside0.mk h
  clear h
  by_cases q1 : c = 45
  · skip
    have d45 : ((c : Int) == 45) = true := by rw [beq_iff_eq]; omega
    have HD := Aside0.mk (show commentDashS c = eitherS true 17 15 by unfold commentDashS; rw [if_pos q1])
    clear q1
    go_enter Tryz.func99, Tryz.ntmps99
    go_wp2_with (first
      | ((with_reducible refine gate_dst (N := 4) rfl ?_); refine box_event ?hg (N := 4) ?hd (cs := #[.int .i64 0, .string ⟨#[]⟩, .bool false, .string ⟨#[]⟩, .string ⟨#[]⟩, .int .i64 0]) (t := 44) ?hr ?_; (case hd => rfl); (case hg => rfl); (case hr => first | (go_simp; done) | (go_simp; rfl)); intro gb hgb w0_ hbox hb; have HF := Aside0.mk (Fr.start HS.out hgb hbox hb); clear hgb hbox hb; obtain ⟨s0, s1, s2, s3, s4, s5⟩ := HF.out.facts; obtain ⟨a0, a1, a2, a3, a4, a5, b0, b1, b2, b3, b4, b5⟩ := HF.out.rfacts)
      | (go_at_call 161; refine (either_calls _ _ _ _).mono ?_; rintro e w1 ⟨rfl, hb⟩; have HF := Aside0.mk (Fr.step (by (with_reducible repeat (first | exact HF.out | apply Fr.alloc | apply Fr.drew | apply Fr.drewN))) hb); clear hb; obtain ⟨s0, s1, s2, s3, s4, s5⟩ := HF.out.facts; obtain ⟨a0, a1, a2, a3, a4, a5, b0, b1, b2, b3, b4, b5⟩ := HF.out.rfacts))
    rw [HD.out]
    exact HF.out.ret rfl rfl rfl
  · skip
    have d45 : ((c : Int) == 45) = false := by rw [beq_eq_false_iff_ne]; omega
    have HD := Aside0.mk (show commentDashS c = eitherS false 17 15 by unfold commentDashS; rw [if_neg q1])
    clear q1
    go_enter Tryz.func99, Tryz.ntmps99
    go_wp2_with (first
      | ((with_reducible refine gate_dst (N := 4) rfl ?_); refine box_event ?hg (N := 4) ?hd (cs := #[.int .i64 0, .string ⟨#[]⟩, .bool false, .string ⟨#[]⟩, .string ⟨#[]⟩, .int .i64 0]) (t := 44) ?hr ?_; (case hd => rfl); (case hg => rfl); (case hr => first | (go_simp; done) | (go_simp; rfl)); intro gb hgb w0_ hbox hb; have HF := Aside0.mk (Fr.start HS.out hgb hbox hb); clear hgb hbox hb; obtain ⟨s0, s1, s2, s3, s4, s5⟩ := HF.out.facts; obtain ⟨a0, a1, a2, a3, a4, a5, b0, b1, b2, b3, b4, b5⟩ := HF.out.rfacts)
      | (go_at_call 161; refine (either_calls _ _ _ _).mono ?_; rintro e w1 ⟨rfl, hb⟩; have HF := Aside0.mk (Fr.step (by (with_reducible repeat (first | exact HF.out | apply Fr.alloc | apply Fr.drew | apply Fr.drewN))) hb); clear hb; obtain ⟨s0, s1, s2, s3, s4, s5⟩ := HF.out.facts; obtain ⟨a0, a1, a2, a3, a4, a5, b0, b1, b2, b3, b4, b5⟩ := HF.out.rfacts))
    rw [HD.out]
    exact HF.out.ret rfl rfl rfl
set_option maxHeartbeats 1600000 in
theorem commentEnd_calls (s : St) (c : Nat) (g : Nat) (w : World) (hc : c < 256) (h : StAt w g s) : Calls Tryz.prog 100 #[.pointer (some ⟨g, 0, none⟩), .int .u8 c] w (RetS (commentEndS c) w) := by
  have hu40 := Tryz.underlying44
  have HS := Aside0.mk h
  clear h
  by_cases q1 : c = 62
  · skip
    have d62 : ((c : Int) == 62) = true := by rw [beq_iff_eq]; omega
    have HD := Aside0.mk (show commentEndS c = atS 0 by unfold commentEndS; rw [if_pos q1])
    clear q1
    go_enter Tryz.func100, Tryz.ntmps100
    go_wp2_with (first
      | ((with_reducible refine gate_dst (N := 4) rfl ?_); refine box_event ?hg (N := 4) ?hd (cs := #[.int .i64 0, .string ⟨#[]⟩, .bool false, .string ⟨#[]⟩, .string ⟨#[]⟩, .int .i64 0]) (t := 44) ?hr ?_; (case hd => rfl); (case hg => rfl); (case hr => first | (go_simp; done) | (go_simp; rfl)); intro gb hgb w0_ hbox hb; have HF := Aside0.mk (Fr.start HS.out hgb hbox hb); clear hgb hbox hb; obtain ⟨s0, s1, s2, s3, s4, s5⟩ := HF.out.facts; obtain ⟨a0, a1, a2, a3, a4, a5, b0, b1, b2, b3, b4, b5⟩ := HF.out.rfacts)
      | (go_at_call 151; refine (at_calls _ _).mono ?_; rintro e w1 ⟨rfl, hb⟩; have HF := Aside0.mk (Fr.step (by (with_reducible repeat (first | exact HF.out | apply Fr.alloc | apply Fr.drew | apply Fr.drewN))) hb); clear hb; obtain ⟨s0, s1, s2, s3, s4, s5⟩ := HF.out.facts; obtain ⟨a0, a1, a2, a3, a4, a5, b0, b1, b2, b3, b4, b5⟩ := HF.out.rfacts))
    rw [HD.out]
    exact HF.out.ret rfl rfl rfl
  · skip
    have d62 : ((c : Int) == 62) = false := by rw [beq_eq_false_iff_ne]; omega
    by_cases q2 : c = 45
    · skip
      have d45 : ((c : Int) == 45) = true := by rw [beq_iff_eq]; omega
      have HD := Aside0.mk (show commentEndS c = eitherS true 17 15 by unfold commentEndS; rw [if_neg q1, if_pos q2])
      clear q1 q2
      go_enter Tryz.func100, Tryz.ntmps100
      go_wp2_with (first
        | ((with_reducible refine gate_dst (N := 4) rfl ?_); refine box_event ?hg (N := 4) ?hd (cs := #[.int .i64 0, .string ⟨#[]⟩, .bool false, .string ⟨#[]⟩, .string ⟨#[]⟩, .int .i64 0]) (t := 44) ?hr ?_; (case hd => rfl); (case hg => rfl); (case hr => first | (go_simp; done) | (go_simp; rfl)); intro gb hgb w0_ hbox hb; have HF := Aside0.mk (Fr.start HS.out hgb hbox hb); clear hgb hbox hb; obtain ⟨s0, s1, s2, s3, s4, s5⟩ := HF.out.facts; obtain ⟨a0, a1, a2, a3, a4, a5, b0, b1, b2, b3, b4, b5⟩ := HF.out.rfacts)
        | (go_at_call 161; refine (either_calls _ _ _ _).mono ?_; rintro e w1 ⟨rfl, hb⟩; have HF := Aside0.mk (Fr.step (by (with_reducible repeat (first | exact HF.out | apply Fr.alloc | apply Fr.drew | apply Fr.drewN))) hb); clear hb; obtain ⟨s0, s1, s2, s3, s4, s5⟩ := HF.out.facts; obtain ⟨a0, a1, a2, a3, a4, a5, b0, b1, b2, b3, b4, b5⟩ := HF.out.rfacts))
      rw [HD.out]
      exact HF.out.ret rfl rfl rfl
    · skip
      have d45 : ((c : Int) == 45) = false := by rw [beq_eq_false_iff_ne]; omega
      have HD := Aside0.mk (show commentEndS c = eitherS false 17 15 by unfold commentEndS; rw [if_neg q1, if_neg q2])
      clear q1 q2
      go_enter Tryz.func100, Tryz.ntmps100
      go_wp2_with (first
        | ((with_reducible refine gate_dst (N := 4) rfl ?_); refine box_event ?hg (N := 4) ?hd (cs := #[.int .i64 0, .string ⟨#[]⟩, .bool false, .string ⟨#[]⟩, .string ⟨#[]⟩, .int .i64 0]) (t := 44) ?hr ?_; (case hd => rfl); (case hg => rfl); (case hr => first | (go_simp; done) | (go_simp; rfl)); intro gb hgb w0_ hbox hb; have HF := Aside0.mk (Fr.start HS.out hgb hbox hb); clear hgb hbox hb; obtain ⟨s0, s1, s2, s3, s4, s5⟩ := HF.out.facts; obtain ⟨a0, a1, a2, a3, a4, a5, b0, b1, b2, b3, b4, b5⟩ := HF.out.rfacts)
        | (go_at_call 161; refine (either_calls _ _ _ _).mono ?_; rintro e w1 ⟨rfl, hb⟩; have HF := Aside0.mk (Fr.step (by (with_reducible repeat (first | exact HF.out | apply Fr.alloc | apply Fr.drew | apply Fr.drewN))) hb); clear hb; obtain ⟨s0, s1, s2, s3, s4, s5⟩ := HF.out.facts; obtain ⟨a0, a1, a2, a3, a4, a5, b0, b1, b2, b3, b4, b5⟩ := HF.out.rfacts))
      rw [HD.out]
      exact HF.out.ret rfl rfl rfl
set_option maxHeartbeats 1600000 in
theorem bogus_calls (s : St) (c : Nat) (g : Nat) (w : World) (hc : c < 256) (h : StAt w g s) : Calls Tryz.prog 101 #[.pointer (some ⟨g, 0, none⟩), .int .u8 c] w (RetS (bogusS c) w) := by
  have hu40 := Tryz.underlying44
  have HS := Aside0.mk h
  clear h
  by_cases q1 : c = 62
  · skip
    have d62 : ((c : Int) == 62) = true := by rw [beq_iff_eq]; omega
    have HD := Aside0.mk (show bogusS c = eitherS true 0 18 by unfold bogusS; rw [if_pos q1])
    clear q1
    go_enter Tryz.func101, Tryz.ntmps101
    go_wp2_with (first
      | ((with_reducible refine gate_dst (N := 4) rfl ?_); refine box_event ?hg (N := 4) ?hd (cs := #[.int .i64 0, .string ⟨#[]⟩, .bool false, .string ⟨#[]⟩, .string ⟨#[]⟩, .int .i64 0]) (t := 44) ?hr ?_; (case hd => rfl); (case hg => rfl); (case hr => first | (go_simp; done) | (go_simp; rfl)); intro gb hgb w0_ hbox hb; have HF := Aside0.mk (Fr.start HS.out hgb hbox hb); clear hgb hbox hb; obtain ⟨s0, s1, s2, s3, s4, s5⟩ := HF.out.facts; obtain ⟨a0, a1, a2, a3, a4, a5, b0, b1, b2, b3, b4, b5⟩ := HF.out.rfacts)
      | (go_at_call 161; refine (either_calls _ _ _ _).mono ?_; rintro e w1 ⟨rfl, hb⟩; have HF := Aside0.mk (Fr.step (by (with_reducible repeat (first | exact HF.out | apply Fr.alloc | apply Fr.drew | apply Fr.drewN))) hb); clear hb; obtain ⟨s0, s1, s2, s3, s4, s5⟩ := HF.out.facts; obtain ⟨a0, a1, a2, a3, a4, a5, b0, b1, b2, b3, b4, b5⟩ := HF.out.rfacts))
    rw [HD.out]
    exact HF.out.ret rfl rfl rfl
  · skip
    have d62 : ((c : Int) == 62) = false := by rw [beq_eq_false_iff_ne]; omega
    have HD := Aside0.mk (show bogusS c = eitherS false 0 18 by unfold bogusS; rw [if_neg q1])
    clear q1
    go_enter Tryz.func101, Tryz.ntmps101
    go_wp2_with (first
      | ((with_reducible refine gate_dst (N := 4) rfl ?_); refine box_event ?hg (N := 4) ?hd (cs := #[.int .i64 0, .string ⟨#[]⟩, .bool false, .string ⟨#[]⟩, .string ⟨#[]⟩, .int .i64 0]) (t := 44) ?hr ?_; (case hd => rfl); (case hg => rfl); (case hr => first | (go_simp; done) | (go_simp; rfl)); intro gb hgb w0_ hbox hb; have HF := Aside0.mk (Fr.start HS.out hgb hbox hb); clear hgb hbox hb; obtain ⟨s0, s1, s2, s3, s4, s5⟩ := HF.out.facts; obtain ⟨a0, a1, a2, a3, a4, a5, b0, b1, b2, b3, b4, b5⟩ := HF.out.rfacts)
      | (go_at_call 161; refine (either_calls _ _ _ _).mono ?_; rintro e w1 ⟨rfl, hb⟩; have HF := Aside0.mk (Fr.step (by (with_reducible repeat (first | exact HF.out | apply Fr.alloc | apply Fr.drew | apply Fr.drewN))) hb); clear hb; obtain ⟨s0, s1, s2, s3, s4, s5⟩ := HF.out.facts; obtain ⟨a0, a1, a2, a3, a4, a5, b0, b1, b2, b3, b4, b5⟩ := HF.out.rfacts))
    rw [HD.out]
    exact HF.out.ret rfl rfl rfl
set_option maxHeartbeats 1600000 in
theorem holds_calls (s : St) (c : Nat) (g : Nat) (w : World) (hc : c < 256) (h : StAt w g s) : Calls Tryz.prog 102 #[.pointer (some ⟨g, 0, none⟩), .int .u8 c] w (RetS (holdsS s c) w) := by
  have hu40 := Tryz.underlying44
  have HS := Aside0.mk h
  clear h
  by_cases q1 : c = 60
  · skip
    have d60 : ((c : Int) == 60) = true := by rw [beq_iff_eq]; omega
    have HD := Aside0.mk (show holdsS s c = heldS s 20 by unfold holdsS; rw [if_pos q1])
    clear q1
    go_enter Tryz.func102, Tryz.ntmps102
    go_wp2_with (first
      | ((with_reducible refine gate_dst (N := 4) rfl ?_); refine box_event ?hg (N := 4) ?hd (cs := #[.int .i64 0, .string ⟨#[]⟩, .bool false, .string ⟨#[]⟩, .string ⟨#[]⟩, .int .i64 0]) (t := 44) ?hr ?_; (case hd => rfl); (case hg => rfl); (case hr => first | (go_simp; done) | (go_simp; rfl)); intro gb hgb w0_ hbox hb; have HF := Aside0.mk (Fr.start HS.out hgb hbox hb); clear hgb hbox hb; obtain ⟨s0, s1, s2, s3, s4, s5⟩ := HF.out.facts; obtain ⟨a0, a1, a2, a3, a4, a5, b0, b1, b2, b3, b4, b5⟩ := HF.out.rfacts)
      | (go_at_call 162; refine (held_calls s _ g _ (by first | exact HF.out.st | exact HF.out.st.alloc _ | exact (HF.out.st.alloc _).alloc _)).mono ?_; rintro e w1 ⟨rfl, hb⟩; have HF := Aside0.mk (Fr.step (by (with_reducible repeat (first | exact HF.out | apply Fr.alloc | apply Fr.drew | apply Fr.drewN))) hb); clear hb; obtain ⟨s0, s1, s2, s3, s4, s5⟩ := HF.out.facts; obtain ⟨a0, a1, a2, a3, a4, a5, b0, b1, b2, b3, b4, b5⟩ := HF.out.rfacts))
    rw [HD.out]
    exact HF.out.ret rfl rfl rfl
  · skip
    have d60 : ((c : Int) == 60) = false := by rw [beq_eq_false_iff_ne]; omega
    have HD := Aside0.mk (show holdsS s c = heldS s 19 by unfold holdsS; rw [if_neg q1])
    clear q1
    go_enter Tryz.func102, Tryz.ntmps102
    go_wp2_with (first
      | ((with_reducible refine gate_dst (N := 4) rfl ?_); refine box_event ?hg (N := 4) ?hd (cs := #[.int .i64 0, .string ⟨#[]⟩, .bool false, .string ⟨#[]⟩, .string ⟨#[]⟩, .int .i64 0]) (t := 44) ?hr ?_; (case hd => rfl); (case hg => rfl); (case hr => first | (go_simp; done) | (go_simp; rfl)); intro gb hgb w0_ hbox hb; have HF := Aside0.mk (Fr.start HS.out hgb hbox hb); clear hgb hbox hb; obtain ⟨s0, s1, s2, s3, s4, s5⟩ := HF.out.facts; obtain ⟨a0, a1, a2, a3, a4, a5, b0, b1, b2, b3, b4, b5⟩ := HF.out.rfacts)
      | (go_at_call 162; refine (held_calls s _ g _ (by first | exact HF.out.st | exact HF.out.st.alloc _ | exact (HF.out.st.alloc _).alloc _)).mono ?_; rintro e w1 ⟨rfl, hb⟩; have HF := Aside0.mk (Fr.step (by (with_reducible repeat (first | exact HF.out | apply Fr.alloc | apply Fr.drew | apply Fr.drewN))) hb); clear hb; obtain ⟨s0, s1, s2, s3, s4, s5⟩ := HF.out.facts; obtain ⟨a0, a1, a2, a3, a4, a5, b0, b1, b2, b3, b4, b5⟩ := HF.out.rfacts))
    rw [HD.out]
    exact HF.out.ret rfl rfl rfl
set_option maxHeartbeats 1600000 in
theorem heldLt_calls (s : St) (c : Nat) (g : Nat) (w : World) (hc : c < 256) (h : StAt w g s) : Calls Tryz.prog 103 #[.pointer (some ⟨g, 0, none⟩), .int .u8 c] w (RetS (heldLtS s c) w) := by
  have hu40 := Tryz.underlying44
  have HS := Aside0.mk h
  clear h
  by_cases q1 : c = 47
  · skip
    have d47 : ((c : Int) == 47) = true := by rw [beq_iff_eq]; omega
    have HD := Aside0.mk (show heldLtS s c = heldS s 21 by unfold heldLtS; rw [if_pos q1])
    clear q1
    go_enter Tryz.func103, Tryz.ntmps103
    go_wp2_with (first
      | ((with_reducible refine gate_dst (N := 4) rfl ?_); refine box_event ?hg (N := 4) ?hd (cs := #[.int .i64 0, .string ⟨#[]⟩, .bool false, .string ⟨#[]⟩, .string ⟨#[]⟩, .int .i64 0]) (t := 44) ?hr ?_; (case hd => rfl); (case hg => rfl); (case hr => first | (go_simp; done) | (go_simp; rfl)); intro gb hgb w0_ hbox hb; have HF := Aside0.mk (Fr.start HS.out hgb hbox hb); clear hgb hbox hb; obtain ⟨s0, s1, s2, s3, s4, s5⟩ := HF.out.facts; obtain ⟨a0, a1, a2, a3, a4, a5, b0, b1, b2, b3, b4, b5⟩ := HF.out.rfacts)
      | (go_at_call 162; refine (held_calls s _ g _ (by first | exact HF.out.st | exact HF.out.st.alloc _ | exact (HF.out.st.alloc _).alloc _)).mono ?_; rintro e w1 ⟨rfl, hb⟩; have HF := Aside0.mk (Fr.step (by (with_reducible repeat (first | exact HF.out | apply Fr.alloc | apply Fr.drew | apply Fr.drewN))) hb); clear hb; obtain ⟨s0, s1, s2, s3, s4, s5⟩ := HF.out.facts; obtain ⟨a0, a1, a2, a3, a4, a5, b0, b1, b2, b3, b4, b5⟩ := HF.out.rfacts))
    rw [HD.out]
    exact HF.out.ret rfl rfl rfl
  · skip
    have d47 : ((c : Int) == 47) = false := by rw [beq_eq_false_iff_ne]; omega
    have HD := Aside0.mk (show heldLtS s c = holdsS s c by unfold heldLtS; rw [if_neg q1])
    clear q1
    go_enter Tryz.func103, Tryz.ntmps103
    go_wp2_with (first
      | ((with_reducible refine gate_dst (N := 4) rfl ?_); refine box_event ?hg (N := 4) ?hd (cs := #[.int .i64 0, .string ⟨#[]⟩, .bool false, .string ⟨#[]⟩, .string ⟨#[]⟩, .int .i64 0]) (t := 44) ?hr ?_; (case hd => rfl); (case hg => rfl); (case hr => first | (go_simp; done) | (go_simp; rfl)); intro gb hgb w0_ hbox hb; have HF := Aside0.mk (Fr.start HS.out hgb hbox hb); clear hgb hbox hb; obtain ⟨s0, s1, s2, s3, s4, s5⟩ := HF.out.facts; obtain ⟨a0, a1, a2, a3, a4, a5, b0, b1, b2, b3, b4, b5⟩ := HF.out.rfacts)
      | (go_at_call 102; refine (holds_calls s c g _ (by omega) (by first | exact HF.out.st | exact HF.out.st.alloc _ | exact (HF.out.st.alloc _).alloc _)).mono ?_; rintro e w1 ⟨rfl, hb⟩; have HF := Aside0.mk (Fr.step (by (with_reducible repeat (first | exact HF.out | apply Fr.alloc | apply Fr.drew | apply Fr.drewN))) hb); clear hb; obtain ⟨s0, s1, s2, s3, s4, s5⟩ := HF.out.facts; obtain ⟨a0, a1, a2, a3, a4, a5, b0, b1, b2, b3, b4, b5⟩ := HF.out.rfacts))
    rw [HD.out]
    exact HF.out.ret rfl rfl rfl
theorem byte_run {P : Program} (T : TypeId) (s : ByteArray) (i : Nat) (h : i < s.size) (W : World) (hT : P.underlying T = some .string) : (Instr.index T (.string s) (.int .i64 (i : Int))).run P W = .ok (.int .u8 (byteAt s (i : Int) : Nat)) W := by
  rw [run_index_string W T s .i64 (i : Int) hT, dif_pos ⟨by omega, by omega⟩]
  have hl : i < s.data.toList.length := h
  have e : byteAt s (i : Int) = (s[i]'h).toNat := by
    unfold byteAt
    rw [Int.toNat_natCast, List.getD_eq_getElem?_getD, List.getElem?_eq_getElem hl]; rfl
  rw [e]; rfl
set_option maxHeartbeats 1600000 in
theorem reads_calls (s : St) (c : Nat) (r : Int) (g : Nat) (w : World) (hc : c < 256) (h : StAt w g s) (hs : s.held.size ≤ 4611686018427387904) : Calls Tryz.prog 163 #[.pointer (some ⟨g, 0, none⟩), .int .u8 c, .int .i64 r] w (RetS (readsS s c r) w) := by
  have hu40 := Tryz.underlying44
  have HS := Aside0.mk h
  clear h
  by_cases q1 : 0 ≤ r
  · have d1 : decide (0 ≤ r) = true := decide_eq_true q1
    by_cases q2 : r < s.held.size
    · have d2 : decide (r < (s.held.size : Int)) = true := decide_eq_true q2
      obtain ⟨i, rfl⟩ : ∃ i : Nat, r = i := ⟨r.toNat, by omega⟩
      have hi : i < s.held.size := by omega
      obtain ⟨b, hb⟩ : ∃ b, byteAt s.held (i : Int) = b := ⟨_, rfl⟩
      have hrun := fun W => byte_run (P := Tryz.prog) 9 s.held i hi W Tryz.underlying9
      rw [hb] at hrun
      have HL1 := Aside0.mk (fun w => lowByte_calls c w)
      have HL2 := Aside0.mk (fun w => lowByte_calls b w)
      by_cases q3 : lowN c = lowN b
      · have HD := Aside0.mk (show readsS s c (i : Int) = ⟨22, ⟨#[]⟩, false, ⟨#[]⟩, s.held, (i : Int) + 1⟩ by unfold readsS; rw [hb, if_pos ⟨q1, q2, q3⟩])
        rw [q3] at HL1
        clear q1 q2 q3 hb
        go_enter Tryz.func163, Tryz.ntmps163
        go_wp2_with ((with_reducible refine gate_dst (N := 6) rfl ?_); refine box_event ?hg (N := 6) ?hd (cs := #[.int .i64 0, .string ⟨#[]⟩, .bool false, .string ⟨#[]⟩, .string ⟨#[]⟩, .int .i64 0]) (t := 44) ?hr ?_; (case hd => rfl); (case hg => rfl); (case hr => first | (go_simp; done) | (go_simp; rfl)); intro gb hgb w0_ hbox hb; have HF := Aside0.mk (Fr.start HS.out hgb hbox hb); clear hgb hbox hb; obtain ⟨s0, s1, s2, s3, s4, s5⟩ := HF.out.facts; obtain ⟨a0, a1, a2, a3, a4, a5, b0, b1, b2, b3, b4, b5⟩ := HF.out.rfacts)
        refine start_ (n := 23) (S := fun w' => w'.cell? ⟨g, 4, none⟩ = some (.string s.held)) (ds := []) #[false, false, false, false, false, false, false, false, false, false, false, false, false, false, false, false, false, false, false, false, false, false, false] (by kernel_rfl) rfl rfl (s4) (fun hHeld => ?_)
        refine pS 0 8 #[true, false, false, false, false, false, false, false, false, false, false, false, false, false, false, false, false, false, false, false, false, false, false] ?_
        refine pS 1 9 #[true, true, false, false, false, false, false, false, false, false, false, false, false, false, false, false, false, false, false, false, false, false, false] ?_
        refine pS 2 10 #[true, true, true, false, false, false, false, false, false, false, false, false, false, false, false, false, false, false, false, false, false, false, false] ?_
        refine pS 3 11 #[true, true, true, true, false, false, false, false, false, false, false, false, false, false, false, false, false, false, false, false, false, false, false] ?_
        refine pS 4 12 #[true, true, true, true, true, false, false, false, false, false, false, false, false, false, false, false, false, false, false, false, false, false, false] ?_
        refine pS 5 13 #[true, true, true, true, true, true, false, false, false, false, false, false, false, false, false, false, false, false, false, false, false, false, false] ?_
        refine pS 6 14 #[true, true, true, true, true, true, true, false, false, false, false, false, false, false, false, false, false, false, false, false, false, false, false] ?_
        refine tS 7 15 #[true, true, true, true, true, true, true, true, false, false, false, false, false, false, false, false, false, false, false, false, false, false, false] hHeld ?_
        refine pS 8 16 #[true, true, true, true, true, true, true, true, true, false, false, false, false, false, false, false, false, false, false, false, false, false, false] ?_
        refine pS 9 17 #[true, true, true, true, true, true, true, true, true, true, false, false, false, false, false, false, false, false, false, false, false, false, false] ?_
        refine pS 10 18 #[true, true, true, true, true, true, true, true, true, true, true, false, false, false, false, false, false, false, false, false, false, false, false] ?_
        refine pS 11 19 #[true, true, true, true, true, true, true, true, true, true, true, true, false, false, false, false, false, false, false, false, false, false, false] ?_
        refine pS 12 20 #[true, true, true, true, true, true, true, true, true, true, true, true, true, false, false, false, false, false, false, false, false, false, false] ?_
        refine pS 14 22 #[true, true, true, true, true, true, true, true, true, true, true, true, true, false, true, false, false, false, false, false, false, false, false] ?_
        refine pS 15 23 #[true, true, true, true, true, true, true, true, true, true, true, true, true, false, true, true, false, false, false, false, false, false, false] ?_
        refine pS 16 24 #[true, true, true, true, true, true, true, true, true, true, true, true, true, false, true, true, true, false, false, false, false, false, false] ?_
        refine pS 18 26 #[true, true, true, true, true, true, true, true, true, true, true, true, true, false, true, true, true, false, true, false, false, false, false] ?_
        refine tS 17 25 #[true, true, true, true, true, true, true, true, true, true, true, true, true, false, true, true, true, true, true, false, false, false, false] hHeld ?_
        refine tS 19 27 #[true, true, true, true, true, true, true, true, true, true, true, true, true, false, true, true, true, true, true, true, false, false, false] hHeld ?_
        refine one_ (i := 13) (N := some 21) #[true, true, true, true, true, true, true, true, true, true, true, true, true, true, true, true, true, true, true, true, false, false, false] rfl rfl (by kernel_rfl) (by decide) (fun K hK => ?_)
        refine goes_ Tryz.func183 (by kernel_rfl) rfl #[.int .u8 (c : Int)] (by rfl) rfl rfl (by simp only [List.map_toArray, List.map_cons, List.map_nil]; rfl) ?_
        with_reducible refine (HL1.out _).mono ?_
        rintro e w3 ⟨rfl, rfl⟩
        refine ⟨_, rfl, ?_⟩
        refine hK.out _ _ (s4) (fun hHeld => ?_)
        clear hK K
        refine norm_ (a' := ?_) ?_ ?_
        rotate_left
        · show Act.put _ (some 21) _ = _
          simp only [Act.put, zA, zZ, zS, i64_w, i32_w]
          rfl
        refine one_ (i := 20) (N := some 28) #[true, true, true, true, true, true, true, true, true, true, true, true, true, true, true, true, true, true, true, true, true, false, false] rfl rfl (by kernel_rfl) (by decide) (fun K hK => ?_)
        refine goes_ Tryz.func183 (by kernel_rfl) rfl #[.int .u8 (b : Int)] (by rfl) rfl rfl (by simp only [List.map_toArray, List.map_cons, List.map_nil]; rfl) ?_
        with_reducible refine (HL2.out _).mono ?_
        rintro e w3 ⟨rfl, rfl⟩
        refine ⟨_, rfl, ?_⟩
        refine hK.out _ _ (s4) (fun hHeld => ?_)
        clear hK K
        refine norm_ (a' := ?_) ?_ ?_
        rotate_left
        · show Act.put _ (some 28) _ = _
          simp only [Act.put, zA, zZ, zS, i64_w, i32_w]
          rfl
        refine pS 21 29 #[true, true, true, true, true, true, true, true, true, true, true, true, true, true, true, true, true, true, true, true, true, true, false] ?_
        refine pS 22 30 #[true, true, true, true, true, true, true, true, true, true, true, true, true, true, true, true, true, true, true, true, true, true, true] ?_
        refine done_ (by kernel_rfl) ?_
        go_wp2_with (go_at_call 162; refine (held_calls s _ g _ (by first | exact HF.out.st | exact HF.out.drew.st)).mono ?_; rintro e w1 ⟨rfl, hb⟩; have HF := Aside0.mk ((Fr.step (by (with_reducible repeat (first | exact HF.out | apply Fr.alloc | apply Fr.drew | apply Fr.drewN))) hb).alloc (.cells #[.int .i64 (heldS s 22).pos, .string (heldS s 22).name, .bool (heldS s 22).fin, .string (heldS s 22).attr, .string (heldS s 22).held, .int .i64 ((i : Int) + 1)] 44)); clear hb; obtain ⟨a0, a1, a2, a3, a4, a5, b0, b1, b2, b3, b4, b5⟩ := HF.out.rfacts)
        rw [HD.out]
        exact HF.out.ret rfl rfl rfl
      · have HD := Aside0.mk (show readsS s c (i : Int) = holdsS s c by unfold readsS; rw [hb, if_neg (fun h => q3 h.2.2)])
        have d3 : ((lowN c : Int) == (lowN b : Int)) = false := by rw [beq_eq_false_iff_ne]; omega
        obtain ⟨lc, hlc⟩ : ∃ m, lowN c = m := ⟨_, rfl⟩
        obtain ⟨lb, hlb⟩ : ∃ m, lowN b = m := ⟨_, rfl⟩
        rw [hlc] at HL1 d3
        rw [hlb] at HL2 d3
        clear q1 q2 q3 hb hlc hlb
        go_enter Tryz.func163, Tryz.ntmps163
        go_wp2_with ((with_reducible refine gate_dst (N := 6) rfl ?_); refine box_event ?hg (N := 6) ?hd (cs := #[.int .i64 0, .string ⟨#[]⟩, .bool false, .string ⟨#[]⟩, .string ⟨#[]⟩, .int .i64 0]) (t := 44) ?hr ?_; (case hd => rfl); (case hg => rfl); (case hr => first | (go_simp; done) | (go_simp; rfl)); intro gb hgb w0_ hbox hb; have HF := Aside0.mk (Fr.start HS.out hgb hbox hb); clear hgb hbox hb; obtain ⟨s0, s1, s2, s3, s4, s5⟩ := HF.out.facts; obtain ⟨a0, a1, a2, a3, a4, a5, b0, b1, b2, b3, b4, b5⟩ := HF.out.rfacts)
        refine start_ (n := 23) (S := fun w' => w'.cell? ⟨g, 4, none⟩ = some (.string s.held)) (ds := []) #[false, false, false, false, false, false, false, false, false, false, false, false, false, false, false, false, false, false, false, false, false, false, false] (by kernel_rfl) rfl rfl (s4) (fun hHeld => ?_)
        refine pS 0 8 #[true, false, false, false, false, false, false, false, false, false, false, false, false, false, false, false, false, false, false, false, false, false, false] ?_
        refine pS 1 9 #[true, true, false, false, false, false, false, false, false, false, false, false, false, false, false, false, false, false, false, false, false, false, false] ?_
        refine pS 2 10 #[true, true, true, false, false, false, false, false, false, false, false, false, false, false, false, false, false, false, false, false, false, false, false] ?_
        refine pS 3 11 #[true, true, true, true, false, false, false, false, false, false, false, false, false, false, false, false, false, false, false, false, false, false, false] ?_
        refine pS 4 12 #[true, true, true, true, true, false, false, false, false, false, false, false, false, false, false, false, false, false, false, false, false, false, false] ?_
        refine pS 5 13 #[true, true, true, true, true, true, false, false, false, false, false, false, false, false, false, false, false, false, false, false, false, false, false] ?_
        refine pS 6 14 #[true, true, true, true, true, true, true, false, false, false, false, false, false, false, false, false, false, false, false, false, false, false, false] ?_
        refine tS 7 15 #[true, true, true, true, true, true, true, true, false, false, false, false, false, false, false, false, false, false, false, false, false, false, false] hHeld ?_
        refine pS 8 16 #[true, true, true, true, true, true, true, true, true, false, false, false, false, false, false, false, false, false, false, false, false, false, false] ?_
        refine pS 9 17 #[true, true, true, true, true, true, true, true, true, true, false, false, false, false, false, false, false, false, false, false, false, false, false] ?_
        refine pS 10 18 #[true, true, true, true, true, true, true, true, true, true, true, false, false, false, false, false, false, false, false, false, false, false, false] ?_
        refine pS 11 19 #[true, true, true, true, true, true, true, true, true, true, true, true, false, false, false, false, false, false, false, false, false, false, false] ?_
        refine pS 12 20 #[true, true, true, true, true, true, true, true, true, true, true, true, true, false, false, false, false, false, false, false, false, false, false] ?_
        refine pS 14 22 #[true, true, true, true, true, true, true, true, true, true, true, true, true, false, true, false, false, false, false, false, false, false, false] ?_
        refine pS 15 23 #[true, true, true, true, true, true, true, true, true, true, true, true, true, false, true, true, false, false, false, false, false, false, false] ?_
        refine pS 16 24 #[true, true, true, true, true, true, true, true, true, true, true, true, true, false, true, true, true, false, false, false, false, false, false] ?_
        refine pS 18 26 #[true, true, true, true, true, true, true, true, true, true, true, true, true, false, true, true, true, false, true, false, false, false, false] ?_
        refine tS 17 25 #[true, true, true, true, true, true, true, true, true, true, true, true, true, false, true, true, true, true, true, false, false, false, false] hHeld ?_
        refine tS 19 27 #[true, true, true, true, true, true, true, true, true, true, true, true, true, false, true, true, true, true, true, true, false, false, false] hHeld ?_
        refine one_ (i := 13) (N := some 21) #[true, true, true, true, true, true, true, true, true, true, true, true, true, true, true, true, true, true, true, true, false, false, false] rfl rfl (by kernel_rfl) (by decide) (fun K hK => ?_)
        refine goes_ Tryz.func183 (by kernel_rfl) rfl #[.int .u8 (c : Int)] (by rfl) rfl rfl (by simp only [List.map_toArray, List.map_cons, List.map_nil]; rfl) ?_
        with_reducible refine (HL1.out _).mono ?_
        rintro e w3 ⟨rfl, rfl⟩
        refine ⟨_, rfl, ?_⟩
        refine hK.out _ _ (s4) (fun hHeld => ?_)
        clear hK K
        refine norm_ (a' := ?_) ?_ ?_
        rotate_left
        · show Act.put _ (some 21) _ = _
          simp only [Act.put, zA, zZ, zS, i64_w, i32_w]
          rfl
        refine one_ (i := 20) (N := some 28) #[true, true, true, true, true, true, true, true, true, true, true, true, true, true, true, true, true, true, true, true, true, false, false] rfl rfl (by kernel_rfl) (by decide) (fun K hK => ?_)
        refine goes_ Tryz.func183 (by kernel_rfl) rfl #[.int .u8 (b : Int)] (by rfl) rfl rfl (by simp only [List.map_toArray, List.map_cons, List.map_nil]; rfl) ?_
        with_reducible refine (HL2.out _).mono ?_
        rintro e w3 ⟨rfl, rfl⟩
        refine ⟨_, rfl, ?_⟩
        refine hK.out _ _ (s4) (fun hHeld => ?_)
        clear hK K
        refine norm_ (a' := ?_) ?_ ?_
        rotate_left
        · show Act.put _ (some 28) _ = _
          simp only [Act.put, zA, zZ, zS, i64_w, i32_w]
          rfl
        refine pS 21 29 #[true, true, true, true, true, true, true, true, true, true, true, true, true, true, true, true, true, true, true, true, true, true, false] ?_
        refine pS 22 30 #[true, true, true, true, true, true, true, true, true, true, true, true, true, true, true, true, true, true, true, true, true, true, true] ?_
        refine done_ (by kernel_rfl) ?_
        go_wp2_with (go_at_call 102; refine (holds_calls s c g _ hc (by first | exact HF.out.st | exact HF.out.drew.st)).mono ?_; rintro e w1 ⟨rfl, hb⟩; have HF := Aside0.mk (Fr.step (by (with_reducible repeat (first | exact HF.out | apply Fr.alloc | apply Fr.drew | apply Fr.drewN))) hb); clear hb; obtain ⟨s0, s1, s2, s3, s4, s5⟩ := HF.out.facts; obtain ⟨a0, a1, a2, a3, a4, a5, b0, b1, b2, b3, b4, b5⟩ := HF.out.rfacts)
        rw [HD.out]
        exact HF.out.ret rfl rfl rfl
    · have d2 : decide (r < (s.held.size : Int)) = false := decide_eq_false q2
      have HD := Aside0.mk (show readsS s c r = holdsS s c by unfold readsS; rw [if_neg (fun h => q2 h.2.1)])
      clear q1 q2
      go_enter Tryz.func163, Tryz.ntmps163
      go_wp2_with ((with_reducible refine gate_dst (N := 6) rfl ?_); refine box_event ?hg (N := 6) ?hd (cs := #[.int .i64 0, .string ⟨#[]⟩, .bool false, .string ⟨#[]⟩, .string ⟨#[]⟩, .int .i64 0]) (t := 44) ?hr ?_; (case hd => rfl); (case hg => rfl); (case hr => first | (go_simp; done) | (go_simp; rfl)); intro gb hgb w0_ hbox hb; have HF := Aside0.mk (Fr.start HS.out hgb hbox hb); clear hgb hbox hb; obtain ⟨s0, s1, s2, s3, s4, s5⟩ := HF.out.facts; obtain ⟨a0, a1, a2, a3, a4, a5, b0, b1, b2, b3, b4, b5⟩ := HF.out.rfacts)
      refine start_ (n := 23) (S := fun w' => w'.cell? ⟨g, 4, none⟩ = some (.string s.held)) (ds := []) #[false, false, false, false, false, false, false, false, false, false, false, false, false, false, false, false, false, false, false, false, false, false, false] (by kernel_rfl) rfl rfl (s4) (fun hHeld => ?_)
      refine pS 0 8 #[true, false, false, false, false, false, false, false, false, false, false, false, false, false, false, false, false, false, false, false, false, false, false] ?_
      refine pS 1 9 #[true, true, false, false, false, false, false, false, false, false, false, false, false, false, false, false, false, false, false, false, false, false, false] ?_
      refine pS 2 10 #[true, true, true, false, false, false, false, false, false, false, false, false, false, false, false, false, false, false, false, false, false, false, false] ?_
      refine pS 3 11 #[true, true, true, true, false, false, false, false, false, false, false, false, false, false, false, false, false, false, false, false, false, false, false] ?_
      refine pS 4 12 #[true, true, true, true, true, false, false, false, false, false, false, false, false, false, false, false, false, false, false, false, false, false, false] ?_
      refine pS 5 13 #[true, true, true, true, true, true, false, false, false, false, false, false, false, false, false, false, false, false, false, false, false, false, false] ?_
      refine pS 6 14 #[true, true, true, true, true, true, true, false, false, false, false, false, false, false, false, false, false, false, false, false, false, false, false] ?_
      refine tS 7 15 #[true, true, true, true, true, true, true, true, false, false, false, false, false, false, false, false, false, false, false, false, false, false, false] hHeld ?_
      refine pS 8 16 #[true, true, true, true, true, true, true, true, true, false, false, false, false, false, false, false, false, false, false, false, false, false, false] ?_
      refine pS 9 17 #[true, true, true, true, true, true, true, true, true, true, false, false, false, false, false, false, false, false, false, false, false, false, false] ?_
      refine pS 10 18 #[true, true, true, true, true, true, true, true, true, true, true, false, false, false, false, false, false, false, false, false, false, false, false] ?_
      refine pS 11 19 #[true, true, true, true, true, true, true, true, true, true, true, true, false, false, false, false, false, false, false, false, false, false, false] ?_
      refine pure_ (i := 12) (N := some 20) (v := undef) (a' := ?_) #[true, true, true, true, true, true, true, true, true, true, true, true, true, false, false, false, false, false, false, false, false, false, false] rfl rfl (by kernel_rfl) (fun _ _ _ h => h) (Or.inr ⟨by rfl, rfl⟩) ?_ ?_
      rotate_left
      · simp only [Act.put, zA, zZ, zS, i64_w, i32_w]
        rfl
      refine pure_ (i := 13) (N := some 21) (v := undef) (a' := ?_) #[true, true, true, true, true, true, true, true, true, true, true, true, true, true, false, false, false, false, false, false, false, false, false] rfl rfl (by kernel_rfl) (fun _ _ _ h => h) (Or.inr ⟨by rfl, rfl⟩) ?_ ?_
      rotate_left
      · simp only [Act.put, zA, zZ, zS, i64_w, i32_w]
        rfl
      refine pure_ (i := 14) (N := some 22) (v := undef) (a' := ?_) #[true, true, true, true, true, true, true, true, true, true, true, true, true, true, true, false, false, false, false, false, false, false, false] rfl rfl (by kernel_rfl) (fun _ _ _ h => h) (Or.inr ⟨by rfl, rfl⟩) ?_ ?_
      rotate_left
      · simp only [Act.put, zA, zZ, zS, i64_w, i32_w]
        rfl
      refine pure_ (i := 15) (N := some 23) (v := undef) (a' := ?_) #[true, true, true, true, true, true, true, true, true, true, true, true, true, true, true, true, false, false, false, false, false, false, false] rfl rfl (by kernel_rfl) (fun _ _ _ h => h) (Or.inr ⟨by rfl, rfl⟩) ?_ ?_
      rotate_left
      · simp only [Act.put, zA, zZ, zS, i64_w, i32_w]
        rfl
      refine pure_ (i := 16) (N := some 24) (v := undef) (a' := ?_) #[true, true, true, true, true, true, true, true, true, true, true, true, true, true, true, true, true, false, false, false, false, false, false] rfl rfl (by kernel_rfl) (fun _ _ _ h => h) (Or.inr ⟨by rfl, rfl⟩) ?_ ?_
      rotate_left
      · simp only [Act.put, zA, zZ, zS, i64_w, i32_w]
        rfl
      refine pure_ (i := 17) (N := some 25) (v := undef) (a' := ?_) #[true, true, true, true, true, true, true, true, true, true, true, true, true, true, true, true, true, true, false, false, false, false, false] rfl rfl (by kernel_rfl) (fun _ _ _ h => h) (Or.inr ⟨by rfl, rfl⟩) ?_ ?_
      rotate_left
      · simp only [Act.put, zA, zZ, zS, i64_w, i32_w]
        rfl
      refine pure_ (i := 18) (N := some 26) (v := undef) (a' := ?_) #[true, true, true, true, true, true, true, true, true, true, true, true, true, true, true, true, true, true, true, false, false, false, false] rfl rfl (by kernel_rfl) (fun _ _ _ h => h) (Or.inr ⟨by rfl, rfl⟩) ?_ ?_
      rotate_left
      · simp only [Act.put, zA, zZ, zS, i64_w, i32_w]
        rfl
      refine pure_ (i := 19) (N := some 27) (v := undef) (a' := ?_) #[true, true, true, true, true, true, true, true, true, true, true, true, true, true, true, true, true, true, true, true, false, false, false] rfl rfl (by kernel_rfl) (fun _ _ _ h => h) (Or.inr ⟨by rfl, rfl⟩) ?_ ?_
      rotate_left
      · simp only [Act.put, zA, zZ, zS, i64_w, i32_w]
        rfl
      refine pure_ (i := 20) (N := some 28) (v := undef) (a' := ?_) #[true, true, true, true, true, true, true, true, true, true, true, true, true, true, true, true, true, true, true, true, true, false, false] rfl rfl (by kernel_rfl) (fun _ _ _ h => h) (Or.inr ⟨by rfl, rfl⟩) ?_ ?_
      rotate_left
      · simp only [Act.put, zA, zZ, zS, i64_w, i32_w]
        rfl
      refine pure_ (i := 21) (N := some 29) (v := undef) (a' := ?_) #[true, true, true, true, true, true, true, true, true, true, true, true, true, true, true, true, true, true, true, true, true, true, false] rfl rfl (by kernel_rfl) (fun _ _ _ h => h) (Or.inr ⟨by rfl, rfl⟩) ?_ ?_
      rotate_left
      · simp only [Act.put, zA, zZ, zS, i64_w, i32_w]
        rfl
      refine pS 22 30 #[true, true, true, true, true, true, true, true, true, true, true, true, true, true, true, true, true, true, true, true, true, true, true] ?_
      refine done_ (by kernel_rfl) ?_
      go_wp2_with (go_at_call 102; refine (holds_calls s c g _ hc (by first | exact HF.out.st | exact HF.out.drew.st)).mono ?_; rintro e w1 ⟨rfl, hb⟩; have HF := Aside0.mk (Fr.step (by (with_reducible repeat (first | exact HF.out | apply Fr.alloc | apply Fr.drew | apply Fr.drewN))) hb); clear hb; obtain ⟨s0, s1, s2, s3, s4, s5⟩ := HF.out.facts; obtain ⟨a0, a1, a2, a3, a4, a5, b0, b1, b2, b3, b4, b5⟩ := HF.out.rfacts)
      rw [HD.out]
      exact HF.out.ret rfl rfl rfl
  · have d1 : decide (0 ≤ r) = false := decide_eq_false q1
    have HD := Aside0.mk (show readsS s c r = holdsS s c by unfold readsS; rw [if_neg (fun h => q1 h.1)])
    clear q1
    go_enter Tryz.func163, Tryz.ntmps163
    go_wp2_with ((with_reducible refine gate_dst (N := 6) rfl ?_); refine box_event ?hg (N := 6) ?hd (cs := #[.int .i64 0, .string ⟨#[]⟩, .bool false, .string ⟨#[]⟩, .string ⟨#[]⟩, .int .i64 0]) (t := 44) ?hr ?_; (case hd => rfl); (case hg => rfl); (case hr => first | (go_simp; done) | (go_simp; rfl)); intro gb hgb w0_ hbox hb; have HF := Aside0.mk (Fr.start HS.out hgb hbox hb); clear hgb hbox hb; obtain ⟨s0, s1, s2, s3, s4, s5⟩ := HF.out.facts; obtain ⟨a0, a1, a2, a3, a4, a5, b0, b1, b2, b3, b4, b5⟩ := HF.out.rfacts)
    refine start_ (n := 23) (S := fun w' => w'.cell? ⟨g, 4, none⟩ = some (.string s.held)) (ds := []) #[false, false, false, false, false, false, false, false, false, false, false, false, false, false, false, false, false, false, false, false, false, false, false] (by kernel_rfl) rfl rfl (s4) (fun hHeld => ?_)
    refine pS 0 8 #[true, false, false, false, false, false, false, false, false, false, false, false, false, false, false, false, false, false, false, false, false, false, false] ?_
    refine pS 1 9 #[true, true, false, false, false, false, false, false, false, false, false, false, false, false, false, false, false, false, false, false, false, false, false] ?_
    refine pS 2 10 #[true, true, true, false, false, false, false, false, false, false, false, false, false, false, false, false, false, false, false, false, false, false, false] ?_
    refine pure_ (i := 3) (N := some 11) (v := undef) (a' := ?_) #[true, true, true, true, false, false, false, false, false, false, false, false, false, false, false, false, false, false, false, false, false, false, false] rfl rfl (by kernel_rfl) (fun _ _ _ h => h) (Or.inr ⟨by rfl, rfl⟩) ?_ ?_
    rotate_left
    · simp only [Act.put, zA, zZ, zS, i64_w, i32_w]
      rfl
    refine pure_ (i := 4) (N := some 12) (v := undef) (a' := ?_) #[true, true, true, true, true, false, false, false, false, false, false, false, false, false, false, false, false, false, false, false, false, false, false] rfl rfl (by kernel_rfl) (fun _ _ _ h => h) (Or.inr ⟨by rfl, rfl⟩) ?_ ?_
    rotate_left
    · simp only [Act.put, zA, zZ, zS, i64_w, i32_w]
      rfl
    refine pure_ (i := 5) (N := some 13) (v := undef) (a' := ?_) #[true, true, true, true, true, true, false, false, false, false, false, false, false, false, false, false, false, false, false, false, false, false, false] rfl rfl (by kernel_rfl) (fun _ _ _ h => h) (Or.inr ⟨by rfl, rfl⟩) ?_ ?_
    rotate_left
    · simp only [Act.put, zA, zZ, zS, i64_w, i32_w]
      rfl
    refine pure_ (i := 6) (N := some 14) (v := undef) (a' := ?_) #[true, true, true, true, true, true, true, false, false, false, false, false, false, false, false, false, false, false, false, false, false, false, false] rfl rfl (by kernel_rfl) (fun _ _ _ h => h) (Or.inr ⟨by rfl, rfl⟩) ?_ ?_
    rotate_left
    · simp only [Act.put, zA, zZ, zS, i64_w, i32_w]
      rfl
    refine pure_ (i := 7) (N := some 15) (v := undef) (a' := ?_) #[true, true, true, true, true, true, true, true, false, false, false, false, false, false, false, false, false, false, false, false, false, false, false] rfl rfl (by kernel_rfl) (fun _ _ _ h => h) (Or.inr ⟨by rfl, rfl⟩) ?_ ?_
    rotate_left
    · simp only [Act.put, zA, zZ, zS, i64_w, i32_w]
      rfl
    refine pure_ (i := 8) (N := some 16) (v := undef) (a' := ?_) #[true, true, true, true, true, true, true, true, true, false, false, false, false, false, false, false, false, false, false, false, false, false, false] rfl rfl (by kernel_rfl) (fun _ _ _ h => h) (Or.inr ⟨by rfl, rfl⟩) ?_ ?_
    rotate_left
    · simp only [Act.put, zA, zZ, zS, i64_w, i32_w]
      rfl
    refine pure_ (i := 9) (N := some 17) (v := undef) (a' := ?_) #[true, true, true, true, true, true, true, true, true, true, false, false, false, false, false, false, false, false, false, false, false, false, false] rfl rfl (by kernel_rfl) (fun _ _ _ h => h) (Or.inr ⟨by rfl, rfl⟩) ?_ ?_
    rotate_left
    · simp only [Act.put, zA, zZ, zS, i64_w, i32_w]
      rfl
    refine pS 10 18 #[true, true, true, true, true, true, true, true, true, true, true, false, false, false, false, false, false, false, false, false, false, false, false] ?_
    refine pS 11 19 #[true, true, true, true, true, true, true, true, true, true, true, true, false, false, false, false, false, false, false, false, false, false, false] ?_
    refine pure_ (i := 12) (N := some 20) (v := undef) (a' := ?_) #[true, true, true, true, true, true, true, true, true, true, true, true, true, false, false, false, false, false, false, false, false, false, false] rfl rfl (by kernel_rfl) (fun _ _ _ h => h) (Or.inr ⟨by rfl, rfl⟩) ?_ ?_
    rotate_left
    · simp only [Act.put, zA, zZ, zS, i64_w, i32_w]
      rfl
    refine pure_ (i := 13) (N := some 21) (v := undef) (a' := ?_) #[true, true, true, true, true, true, true, true, true, true, true, true, true, true, false, false, false, false, false, false, false, false, false] rfl rfl (by kernel_rfl) (fun _ _ _ h => h) (Or.inr ⟨by rfl, rfl⟩) ?_ ?_
    rotate_left
    · simp only [Act.put, zA, zZ, zS, i64_w, i32_w]
      rfl
    refine pure_ (i := 14) (N := some 22) (v := undef) (a' := ?_) #[true, true, true, true, true, true, true, true, true, true, true, true, true, true, true, false, false, false, false, false, false, false, false] rfl rfl (by kernel_rfl) (fun _ _ _ h => h) (Or.inr ⟨by rfl, rfl⟩) ?_ ?_
    rotate_left
    · simp only [Act.put, zA, zZ, zS, i64_w, i32_w]
      rfl
    refine pure_ (i := 15) (N := some 23) (v := undef) (a' := ?_) #[true, true, true, true, true, true, true, true, true, true, true, true, true, true, true, true, false, false, false, false, false, false, false] rfl rfl (by kernel_rfl) (fun _ _ _ h => h) (Or.inr ⟨by rfl, rfl⟩) ?_ ?_
    rotate_left
    · simp only [Act.put, zA, zZ, zS, i64_w, i32_w]
      rfl
    refine pure_ (i := 16) (N := some 24) (v := undef) (a' := ?_) #[true, true, true, true, true, true, true, true, true, true, true, true, true, true, true, true, true, false, false, false, false, false, false] rfl rfl (by kernel_rfl) (fun _ _ _ h => h) (Or.inr ⟨by rfl, rfl⟩) ?_ ?_
    rotate_left
    · simp only [Act.put, zA, zZ, zS, i64_w, i32_w]
      rfl
    refine pure_ (i := 17) (N := some 25) (v := undef) (a' := ?_) #[true, true, true, true, true, true, true, true, true, true, true, true, true, true, true, true, true, true, false, false, false, false, false] rfl rfl (by kernel_rfl) (fun _ _ _ h => h) (Or.inr ⟨by rfl, rfl⟩) ?_ ?_
    rotate_left
    · simp only [Act.put, zA, zZ, zS, i64_w, i32_w]
      rfl
    refine pure_ (i := 18) (N := some 26) (v := undef) (a' := ?_) #[true, true, true, true, true, true, true, true, true, true, true, true, true, true, true, true, true, true, true, false, false, false, false] rfl rfl (by kernel_rfl) (fun _ _ _ h => h) (Or.inr ⟨by rfl, rfl⟩) ?_ ?_
    rotate_left
    · simp only [Act.put, zA, zZ, zS, i64_w, i32_w]
      rfl
    refine pure_ (i := 19) (N := some 27) (v := undef) (a' := ?_) #[true, true, true, true, true, true, true, true, true, true, true, true, true, true, true, true, true, true, true, true, false, false, false] rfl rfl (by kernel_rfl) (fun _ _ _ h => h) (Or.inr ⟨by rfl, rfl⟩) ?_ ?_
    rotate_left
    · simp only [Act.put, zA, zZ, zS, i64_w, i32_w]
      rfl
    refine pure_ (i := 20) (N := some 28) (v := undef) (a' := ?_) #[true, true, true, true, true, true, true, true, true, true, true, true, true, true, true, true, true, true, true, true, true, false, false] rfl rfl (by kernel_rfl) (fun _ _ _ h => h) (Or.inr ⟨by rfl, rfl⟩) ?_ ?_
    rotate_left
    · simp only [Act.put, zA, zZ, zS, i64_w, i32_w]
      rfl
    refine pure_ (i := 21) (N := some 29) (v := undef) (a' := ?_) #[true, true, true, true, true, true, true, true, true, true, true, true, true, true, true, true, true, true, true, true, true, true, false] rfl rfl (by kernel_rfl) (fun _ _ _ h => h) (Or.inr ⟨by rfl, rfl⟩) ?_ ?_
    rotate_left
    · simp only [Act.put, zA, zZ, zS, i64_w, i32_w]
      rfl
    refine pS 22 30 #[true, true, true, true, true, true, true, true, true, true, true, true, true, true, true, true, true, true, true, true, true, true, true] ?_
    refine done_ (by kernel_rfl) ?_
    go_wp2_with (go_at_call 102; refine (holds_calls s c g _ hc (by first | exact HF.out.st | exact HF.out.drew.st)).mono ?_; rintro e w1 ⟨rfl, hb⟩; have HF := Aside0.mk (Fr.step (by (with_reducible repeat (first | exact HF.out | apply Fr.alloc | apply Fr.drew | apply Fr.drewN))) hb); clear hb; obtain ⟨s0, s1, s2, s3, s4, s5⟩ := HF.out.facts; obtain ⟨a0, a1, a2, a3, a4, a5, b0, b1, b2, b3, b4, b5⟩ := HF.out.rfacts)
    rw [HD.out]
    exact HF.out.ret rfl rfl rfl
end Go.Proofs.YtfmcdlbbbmeolaaGreatDoor.Tk
end
