/- tok's functions of a state and a byte: walked. (Laid by gen_tk2.py, a program of this session.) -/
import Derived.Test.YtgbaakopneldaaaDoorM6
section
namespace Go.Proofs.YtgbaakopneldaaaDoor.Tk
open Go.RowKit Go.Proofs.YtgbaakopneldaaaDoorW.PrintWords Go.Proofs.YtgbaakopneldaaaDoorW.PrintLast Go.Proofs.YtgbaakopneldaaaDoorW.PrintMore
open Go.Proofs.YtgbaakopneldaaaDoor.Refs (lowN lowByte_calls)
attribute [local go_sem ↓] Go.wp_at_zero Go.wp_at_succ
set_option linter.unusedVariables false
set_option linter.unusedSimpArgs false
set_option maxRecDepth 100000
set_option maxHeartbeats 1600000 in
theorem bangs_calls (c : Nat) (x : Int) (w : World) (hc : c < 256) : Calls Tryd.prog 61 #[.int .u8 c, .int .i64 x] w (RetS (bangsS c x) w) := by
  have hu40 := Tryd.underlying40
  by_cases q1 : c = 45
  · skip
    have d45 : ((c : Int) == 45) = true := by rw [beq_iff_eq]; omega
    have HD := Aside0.mk (show bangsS c x = atS x by unfold bangsS; rw [if_pos q1])
    clear q1
    go_enter Tryd.func61, Tryd.ntmps61
    go_wp2_with (first
      | ((with_reducible refine gate_dst (N := 4) rfl ?_); refine box_event ?hg (N := 4) ?hd (cs := #[.int .i64 0, .string ⟨#[]⟩, .bool false, .string ⟨#[]⟩, .string ⟨#[]⟩, .int .i64 0]) (t := 40) ?hr ?_; (case hd => rfl); (case hg => rfl); (case hr => first | (go_simp; done) | (go_simp; rfl)); intro gb hgb w0_ hbox hb; have HF := Aside0.mk (FrN.start hgb hbox hb); clear hgb hbox hb; obtain ⟨a0, a1, a2, a3, a4, a5, b0, b1, b2, b3, b4, b5⟩ := HF.out.rfacts)
      | (go_at_call 51; refine (at_calls _ _).mono ?_; rintro e w1 ⟨rfl, hb⟩; have HF := Aside0.mk (FrN.step (by (with_reducible repeat (first | exact HF.out | apply FrN.alloc | apply FrN.drew | apply FrN.drewN))) hb); clear hb; obtain ⟨a0, a1, a2, a3, a4, a5, b0, b1, b2, b3, b4, b5⟩ := HF.out.rfacts))
    rw [HD.out]
    exact HF.out.ret rfl rfl rfl
  · skip
    have d45 : ((c : Int) == 45) = false := by rw [beq_eq_false_iff_ne]; omega
    by_cases q2 : c = 62
    · skip
      have d62 : ((c : Int) == 62) = true := by rw [beq_iff_eq]; omega
      have HD := Aside0.mk (show bangsS c x = atS 0 by unfold bangsS; rw [if_neg q1, if_pos q2])
      clear q1 q2
      go_enter Tryd.func61, Tryd.ntmps61
      go_wp2_with (first
        | ((with_reducible refine gate_dst (N := 4) rfl ?_); refine box_event ?hg (N := 4) ?hd (cs := #[.int .i64 0, .string ⟨#[]⟩, .bool false, .string ⟨#[]⟩, .string ⟨#[]⟩, .int .i64 0]) (t := 40) ?hr ?_; (case hd => rfl); (case hg => rfl); (case hr => first | (go_simp; done) | (go_simp; rfl)); intro gb hgb w0_ hbox hb; have HF := Aside0.mk (FrN.start hgb hbox hb); clear hgb hbox hb; obtain ⟨a0, a1, a2, a3, a4, a5, b0, b1, b2, b3, b4, b5⟩ := HF.out.rfacts)
        | (go_at_call 51; refine (at_calls _ _).mono ?_; rintro e w1 ⟨rfl, hb⟩; have HF := Aside0.mk (FrN.step (by (with_reducible repeat (first | exact HF.out | apply FrN.alloc | apply FrN.drew | apply FrN.drewN))) hb); clear hb; obtain ⟨a0, a1, a2, a3, a4, a5, b0, b1, b2, b3, b4, b5⟩ := HF.out.rfacts))
      rw [HD.out]
      exact HF.out.ret rfl rfl rfl
    · skip
      have d62 : ((c : Int) == 62) = false := by rw [beq_eq_false_iff_ne]; omega
      have HD := Aside0.mk (show bangsS c x = atS 18 by unfold bangsS; rw [if_neg q1, if_neg q2])
      clear q1 q2
      go_enter Tryd.func61, Tryd.ntmps61
      go_wp2_with (first
        | ((with_reducible refine gate_dst (N := 4) rfl ?_); refine box_event ?hg (N := 4) ?hd (cs := #[.int .i64 0, .string ⟨#[]⟩, .bool false, .string ⟨#[]⟩, .string ⟨#[]⟩, .int .i64 0]) (t := 40) ?hr ?_; (case hd => rfl); (case hg => rfl); (case hr => first | (go_simp; done) | (go_simp; rfl)); intro gb hgb w0_ hbox hb; have HF := Aside0.mk (FrN.start hgb hbox hb); clear hgb hbox hb; obtain ⟨a0, a1, a2, a3, a4, a5, b0, b1, b2, b3, b4, b5⟩ := HF.out.rfacts)
        | (go_at_call 51; refine (at_calls _ _).mono ?_; rintro e w1 ⟨rfl, hb⟩; have HF := Aside0.mk (FrN.step (by (with_reducible repeat (first | exact HF.out | apply FrN.alloc | apply FrN.drew | apply FrN.drewN))) hb); clear hb; obtain ⟨a0, a1, a2, a3, a4, a5, b0, b1, b2, b3, b4, b5⟩ := HF.out.rfacts))
      rw [HD.out]
      exact HF.out.ret rfl rfl rfl
set_option maxHeartbeats 1600000 in
theorem either_calls (b : Bool) (x y : Int) (w : World) : Calls Tryd.prog 62 #[.bool b, .int .i64 x, .int .i64 y] w (RetS (eitherS b x y) w) := by
  have hu40 := Tryd.underlying40
  by_cases q1 : b = true
  · skip
    have db : b = true := q1
    have HD := Aside0.mk (show eitherS b x y = atS x by unfold eitherS; rw [if_pos q1])
    clear q1
    go_enter Tryd.func62, Tryd.ntmps62
    go_wp2_with (first
      | ((with_reducible refine gate_dst (N := 6) rfl ?_); refine box_event ?hg (N := 6) ?hd (cs := #[.int .i64 0, .string ⟨#[]⟩, .bool false, .string ⟨#[]⟩, .string ⟨#[]⟩, .int .i64 0]) (t := 40) ?hr ?_; (case hd => rfl); (case hg => rfl); (case hr => first | (go_simp; done) | (go_simp; rfl)); intro gb hgb w0_ hbox hb; have HF := Aside0.mk (FrN.start hgb hbox hb); clear hgb hbox hb; obtain ⟨a0, a1, a2, a3, a4, a5, b0, b1, b2, b3, b4, b5⟩ := HF.out.rfacts)
      | (go_at_call 51; refine (at_calls _ _).mono ?_; rintro e w1 ⟨rfl, hb⟩; have HF := Aside0.mk (FrN.step (by (with_reducible repeat (first | exact HF.out | apply FrN.alloc | apply FrN.drew | apply FrN.drewN))) hb); clear hb; obtain ⟨a0, a1, a2, a3, a4, a5, b0, b1, b2, b3, b4, b5⟩ := HF.out.rfacts))
    rw [HD.out]
    exact HF.out.ret rfl rfl rfl
  · skip
    have db : b = false := by simpa using q1
    have HD := Aside0.mk (show eitherS b x y = atS y by unfold eitherS; rw [if_neg q1])
    clear q1
    go_enter Tryd.func62, Tryd.ntmps62
    go_wp2_with (first
      | ((with_reducible refine gate_dst (N := 6) rfl ?_); refine box_event ?hg (N := 6) ?hd (cs := #[.int .i64 0, .string ⟨#[]⟩, .bool false, .string ⟨#[]⟩, .string ⟨#[]⟩, .int .i64 0]) (t := 40) ?hr ?_; (case hd => rfl); (case hg => rfl); (case hr => first | (go_simp; done) | (go_simp; rfl)); intro gb hgb w0_ hbox hb; have HF := Aside0.mk (FrN.start hgb hbox hb); clear hgb hbox hb; obtain ⟨a0, a1, a2, a3, a4, a5, b0, b1, b2, b3, b4, b5⟩ := HF.out.rfacts)
      | (go_at_call 51; refine (at_calls _ _).mono ?_; rintro e w1 ⟨rfl, hb⟩; have HF := Aside0.mk (FrN.step (by (with_reducible repeat (first | exact HF.out | apply FrN.alloc | apply FrN.drew | apply FrN.drewN))) hb); clear hb; obtain ⟨a0, a1, a2, a3, a4, a5, b0, b1, b2, b3, b4, b5⟩ := HF.out.rfacts))
    rw [HD.out]
    exact HF.out.ret rfl rfl rfl
set_option maxHeartbeats 1600000 in
theorem bang_calls (s : St) (c : Nat) (g : Nat) (w : World) (hc : c < 256) (h : StAt w g s) : Calls Tryd.prog 34 #[.pointer (some ⟨g, 0, none⟩), .int .u8 c] w (RetS (bangsS c 14) w) := by
  have hu40 := Tryd.underlying40
  have HS := Aside0.mk h
  clear h
  go_enter Tryd.func34, Tryd.ntmps34
  go_wp2_with (first
    | ((with_reducible refine gate_dst (N := 4) rfl ?_); refine box_event ?hg (N := 4) ?hd (cs := #[.int .i64 0, .string ⟨#[]⟩, .bool false, .string ⟨#[]⟩, .string ⟨#[]⟩, .int .i64 0]) (t := 40) ?hr ?_; (case hd => rfl); (case hg => rfl); (case hr => first | (go_simp; done) | (go_simp; rfl)); intro gb hgb w0_ hbox hb; have HF := Aside0.mk (Fr.start HS.out hgb hbox hb); clear hgb hbox hb; obtain ⟨s0, s1, s2, s3, s4, s5⟩ := HF.out.facts; obtain ⟨a0, a1, a2, a3, a4, a5, b0, b1, b2, b3, b4, b5⟩ := HF.out.rfacts)
    | (go_at_call 61; refine (bangs_calls c _ _ (by omega)).mono ?_; rintro e w1 ⟨rfl, hb⟩; have HF := Aside0.mk (Fr.step (by (with_reducible repeat (first | exact HF.out | apply Fr.alloc | apply Fr.drew | apply Fr.drewN))) hb); clear hb; obtain ⟨s0, s1, s2, s3, s4, s5⟩ := HF.out.facts; obtain ⟨a0, a1, a2, a3, a4, a5, b0, b1, b2, b3, b4, b5⟩ := HF.out.rfacts))
  exact HF.out.ret rfl rfl rfl
set_option maxHeartbeats 1600000 in
theorem bangDash_calls (s : St) (c : Nat) (g : Nat) (w : World) (hc : c < 256) (h : StAt w g s) : Calls Tryd.prog 35 #[.pointer (some ⟨g, 0, none⟩), .int .u8 c] w (RetS (bangsS c 15) w) := by
  have hu40 := Tryd.underlying40
  have HS := Aside0.mk h
  clear h
  go_enter Tryd.func35, Tryd.ntmps35
  go_wp2_with (first
    | ((with_reducible refine gate_dst (N := 4) rfl ?_); refine box_event ?hg (N := 4) ?hd (cs := #[.int .i64 0, .string ⟨#[]⟩, .bool false, .string ⟨#[]⟩, .string ⟨#[]⟩, .int .i64 0]) (t := 40) ?hr ?_; (case hd => rfl); (case hg => rfl); (case hr => first | (go_simp; done) | (go_simp; rfl)); intro gb hgb w0_ hbox hb; have HF := Aside0.mk (Fr.start HS.out hgb hbox hb); clear hgb hbox hb; obtain ⟨s0, s1, s2, s3, s4, s5⟩ := HF.out.facts; obtain ⟨a0, a1, a2, a3, a4, a5, b0, b1, b2, b3, b4, b5⟩ := HF.out.rfacts)
    | (go_at_call 61; refine (bangs_calls c _ _ (by omega)).mono ?_; rintro e w1 ⟨rfl, hb⟩; have HF := Aside0.mk (Fr.step (by (with_reducible repeat (first | exact HF.out | apply Fr.alloc | apply Fr.drew | apply Fr.drewN))) hb); clear hb; obtain ⟨s0, s1, s2, s3, s4, s5⟩ := HF.out.facts; obtain ⟨a0, a1, a2, a3, a4, a5, b0, b1, b2, b3, b4, b5⟩ := HF.out.rfacts))
  exact HF.out.ret rfl rfl rfl
set_option maxHeartbeats 1600000 in
theorem comment_calls (s : St) (c : Nat) (g : Nat) (w : World) (hc : c < 256) (h : StAt w g s) : Calls Tryd.prog 36 #[.pointer (some ⟨g, 0, none⟩), .int .u8 c] w (RetS (commentS c) w) := by
  have hu40 := Tryd.underlying40
  have HS := Aside0.mk h
  clear h
  by_cases q1 : c = 45
  · skip
    have d45 : ((c : Int) == 45) = true := by rw [beq_iff_eq]; omega
    have HD := Aside0.mk (show commentS c = eitherS true 16 15 by unfold commentS; rw [if_pos q1])
    clear q1
    go_enter Tryd.func36, Tryd.ntmps36
    go_wp2_with (first
      | ((with_reducible refine gate_dst (N := 4) rfl ?_); refine box_event ?hg (N := 4) ?hd (cs := #[.int .i64 0, .string ⟨#[]⟩, .bool false, .string ⟨#[]⟩, .string ⟨#[]⟩, .int .i64 0]) (t := 40) ?hr ?_; (case hd => rfl); (case hg => rfl); (case hr => first | (go_simp; done) | (go_simp; rfl)); intro gb hgb w0_ hbox hb; have HF := Aside0.mk (Fr.start HS.out hgb hbox hb); clear hgb hbox hb; obtain ⟨s0, s1, s2, s3, s4, s5⟩ := HF.out.facts; obtain ⟨a0, a1, a2, a3, a4, a5, b0, b1, b2, b3, b4, b5⟩ := HF.out.rfacts)
      | (go_at_call 62; refine (either_calls _ _ _ _).mono ?_; rintro e w1 ⟨rfl, hb⟩; have HF := Aside0.mk (Fr.step (by (with_reducible repeat (first | exact HF.out | apply Fr.alloc | apply Fr.drew | apply Fr.drewN))) hb); clear hb; obtain ⟨s0, s1, s2, s3, s4, s5⟩ := HF.out.facts; obtain ⟨a0, a1, a2, a3, a4, a5, b0, b1, b2, b3, b4, b5⟩ := HF.out.rfacts))
    rw [HD.out]
    exact HF.out.ret rfl rfl rfl
  · skip
    have d45 : ((c : Int) == 45) = false := by rw [beq_eq_false_iff_ne]; omega
    have HD := Aside0.mk (show commentS c = eitherS false 16 15 by unfold commentS; rw [if_neg q1])
    clear q1
    go_enter Tryd.func36, Tryd.ntmps36
    go_wp2_with (first
      | ((with_reducible refine gate_dst (N := 4) rfl ?_); refine box_event ?hg (N := 4) ?hd (cs := #[.int .i64 0, .string ⟨#[]⟩, .bool false, .string ⟨#[]⟩, .string ⟨#[]⟩, .int .i64 0]) (t := 40) ?hr ?_; (case hd => rfl); (case hg => rfl); (case hr => first | (go_simp; done) | (go_simp; rfl)); intro gb hgb w0_ hbox hb; have HF := Aside0.mk (Fr.start HS.out hgb hbox hb); clear hgb hbox hb; obtain ⟨s0, s1, s2, s3, s4, s5⟩ := HF.out.facts; obtain ⟨a0, a1, a2, a3, a4, a5, b0, b1, b2, b3, b4, b5⟩ := HF.out.rfacts)
      | (go_at_call 62; refine (either_calls _ _ _ _).mono ?_; rintro e w1 ⟨rfl, hb⟩; have HF := Aside0.mk (Fr.step (by (with_reducible repeat (first | exact HF.out | apply Fr.alloc | apply Fr.drew | apply Fr.drewN))) hb); clear hb; obtain ⟨s0, s1, s2, s3, s4, s5⟩ := HF.out.facts; obtain ⟨a0, a1, a2, a3, a4, a5, b0, b1, b2, b3, b4, b5⟩ := HF.out.rfacts))
    rw [HD.out]
    exact HF.out.ret rfl rfl rfl
set_option maxHeartbeats 1600000 in
theorem commentDash_calls (s : St) (c : Nat) (g : Nat) (w : World) (hc : c < 256) (h : StAt w g s) : Calls Tryd.prog 37 #[.pointer (some ⟨g, 0, none⟩), .int .u8 c] w (RetS (commentDashS c) w) := by
  have hu40 := Tryd.underlying40
  have HS := Aside0.mk h
  clear h
  by_cases q1 : c = 45
  · skip
    have d45 : ((c : Int) == 45) = true := by rw [beq_iff_eq]; omega
    have HD := Aside0.mk (show commentDashS c = eitherS true 17 15 by unfold commentDashS; rw [if_pos q1])
    clear q1
    go_enter Tryd.func37, Tryd.ntmps37
    go_wp2_with (first
      | ((with_reducible refine gate_dst (N := 4) rfl ?_); refine box_event ?hg (N := 4) ?hd (cs := #[.int .i64 0, .string ⟨#[]⟩, .bool false, .string ⟨#[]⟩, .string ⟨#[]⟩, .int .i64 0]) (t := 40) ?hr ?_; (case hd => rfl); (case hg => rfl); (case hr => first | (go_simp; done) | (go_simp; rfl)); intro gb hgb w0_ hbox hb; have HF := Aside0.mk (Fr.start HS.out hgb hbox hb); clear hgb hbox hb; obtain ⟨s0, s1, s2, s3, s4, s5⟩ := HF.out.facts; obtain ⟨a0, a1, a2, a3, a4, a5, b0, b1, b2, b3, b4, b5⟩ := HF.out.rfacts)
      | (go_at_call 62; refine (either_calls _ _ _ _).mono ?_; rintro e w1 ⟨rfl, hb⟩; have HF := Aside0.mk (Fr.step (by (with_reducible repeat (first | exact HF.out | apply Fr.alloc | apply Fr.drew | apply Fr.drewN))) hb); clear hb; obtain ⟨s0, s1, s2, s3, s4, s5⟩ := HF.out.facts; obtain ⟨a0, a1, a2, a3, a4, a5, b0, b1, b2, b3, b4, b5⟩ := HF.out.rfacts))
    rw [HD.out]
    exact HF.out.ret rfl rfl rfl
  · skip
    have d45 : ((c : Int) == 45) = false := by rw [beq_eq_false_iff_ne]; omega
    have HD := Aside0.mk (show commentDashS c = eitherS false 17 15 by unfold commentDashS; rw [if_neg q1])
    clear q1
    go_enter Tryd.func37, Tryd.ntmps37
    go_wp2_with (first
      | ((with_reducible refine gate_dst (N := 4) rfl ?_); refine box_event ?hg (N := 4) ?hd (cs := #[.int .i64 0, .string ⟨#[]⟩, .bool false, .string ⟨#[]⟩, .string ⟨#[]⟩, .int .i64 0]) (t := 40) ?hr ?_; (case hd => rfl); (case hg => rfl); (case hr => first | (go_simp; done) | (go_simp; rfl)); intro gb hgb w0_ hbox hb; have HF := Aside0.mk (Fr.start HS.out hgb hbox hb); clear hgb hbox hb; obtain ⟨s0, s1, s2, s3, s4, s5⟩ := HF.out.facts; obtain ⟨a0, a1, a2, a3, a4, a5, b0, b1, b2, b3, b4, b5⟩ := HF.out.rfacts)
      | (go_at_call 62; refine (either_calls _ _ _ _).mono ?_; rintro e w1 ⟨rfl, hb⟩; have HF := Aside0.mk (Fr.step (by (with_reducible repeat (first | exact HF.out | apply Fr.alloc | apply Fr.drew | apply Fr.drewN))) hb); clear hb; obtain ⟨s0, s1, s2, s3, s4, s5⟩ := HF.out.facts; obtain ⟨a0, a1, a2, a3, a4, a5, b0, b1, b2, b3, b4, b5⟩ := HF.out.rfacts))
    rw [HD.out]
    exact HF.out.ret rfl rfl rfl
set_option maxHeartbeats 1600000 in
theorem commentEnd_calls (s : St) (c : Nat) (g : Nat) (w : World) (hc : c < 256) (h : StAt w g s) : Calls Tryd.prog 38 #[.pointer (some ⟨g, 0, none⟩), .int .u8 c] w (RetS (commentEndS c) w) := by
  have hu40 := Tryd.underlying40
  have HS := Aside0.mk h
  clear h
  by_cases q1 : c = 62
  · skip
    have d62 : ((c : Int) == 62) = true := by rw [beq_iff_eq]; omega
    have HD := Aside0.mk (show commentEndS c = atS 0 by unfold commentEndS; rw [if_pos q1])
    clear q1
    go_enter Tryd.func38, Tryd.ntmps38
    go_wp2_with (first
      | ((with_reducible refine gate_dst (N := 4) rfl ?_); refine box_event ?hg (N := 4) ?hd (cs := #[.int .i64 0, .string ⟨#[]⟩, .bool false, .string ⟨#[]⟩, .string ⟨#[]⟩, .int .i64 0]) (t := 40) ?hr ?_; (case hd => rfl); (case hg => rfl); (case hr => first | (go_simp; done) | (go_simp; rfl)); intro gb hgb w0_ hbox hb; have HF := Aside0.mk (Fr.start HS.out hgb hbox hb); clear hgb hbox hb; obtain ⟨s0, s1, s2, s3, s4, s5⟩ := HF.out.facts; obtain ⟨a0, a1, a2, a3, a4, a5, b0, b1, b2, b3, b4, b5⟩ := HF.out.rfacts)
      | (go_at_call 51; refine (at_calls _ _).mono ?_; rintro e w1 ⟨rfl, hb⟩; have HF := Aside0.mk (Fr.step (by (with_reducible repeat (first | exact HF.out | apply Fr.alloc | apply Fr.drew | apply Fr.drewN))) hb); clear hb; obtain ⟨s0, s1, s2, s3, s4, s5⟩ := HF.out.facts; obtain ⟨a0, a1, a2, a3, a4, a5, b0, b1, b2, b3, b4, b5⟩ := HF.out.rfacts))
    rw [HD.out]
    exact HF.out.ret rfl rfl rfl
  · skip
    have d62 : ((c : Int) == 62) = false := by rw [beq_eq_false_iff_ne]; omega
    by_cases q2 : c = 45
    · skip
      have d45 : ((c : Int) == 45) = true := by rw [beq_iff_eq]; omega
      have HD := Aside0.mk (show commentEndS c = eitherS true 17 15 by unfold commentEndS; rw [if_neg q1, if_pos q2])
      clear q1 q2
      go_enter Tryd.func38, Tryd.ntmps38
      go_wp2_with (first
        | ((with_reducible refine gate_dst (N := 4) rfl ?_); refine box_event ?hg (N := 4) ?hd (cs := #[.int .i64 0, .string ⟨#[]⟩, .bool false, .string ⟨#[]⟩, .string ⟨#[]⟩, .int .i64 0]) (t := 40) ?hr ?_; (case hd => rfl); (case hg => rfl); (case hr => first | (go_simp; done) | (go_simp; rfl)); intro gb hgb w0_ hbox hb; have HF := Aside0.mk (Fr.start HS.out hgb hbox hb); clear hgb hbox hb; obtain ⟨s0, s1, s2, s3, s4, s5⟩ := HF.out.facts; obtain ⟨a0, a1, a2, a3, a4, a5, b0, b1, b2, b3, b4, b5⟩ := HF.out.rfacts)
        | (go_at_call 62; refine (either_calls _ _ _ _).mono ?_; rintro e w1 ⟨rfl, hb⟩; have HF := Aside0.mk (Fr.step (by (with_reducible repeat (first | exact HF.out | apply Fr.alloc | apply Fr.drew | apply Fr.drewN))) hb); clear hb; obtain ⟨s0, s1, s2, s3, s4, s5⟩ := HF.out.facts; obtain ⟨a0, a1, a2, a3, a4, a5, b0, b1, b2, b3, b4, b5⟩ := HF.out.rfacts))
      rw [HD.out]
      exact HF.out.ret rfl rfl rfl
    · skip
      have d45 : ((c : Int) == 45) = false := by rw [beq_eq_false_iff_ne]; omega
      have HD := Aside0.mk (show commentEndS c = eitherS false 17 15 by unfold commentEndS; rw [if_neg q1, if_neg q2])
      clear q1 q2
      go_enter Tryd.func38, Tryd.ntmps38
      go_wp2_with (first
        | ((with_reducible refine gate_dst (N := 4) rfl ?_); refine box_event ?hg (N := 4) ?hd (cs := #[.int .i64 0, .string ⟨#[]⟩, .bool false, .string ⟨#[]⟩, .string ⟨#[]⟩, .int .i64 0]) (t := 40) ?hr ?_; (case hd => rfl); (case hg => rfl); (case hr => first | (go_simp; done) | (go_simp; rfl)); intro gb hgb w0_ hbox hb; have HF := Aside0.mk (Fr.start HS.out hgb hbox hb); clear hgb hbox hb; obtain ⟨s0, s1, s2, s3, s4, s5⟩ := HF.out.facts; obtain ⟨a0, a1, a2, a3, a4, a5, b0, b1, b2, b3, b4, b5⟩ := HF.out.rfacts)
        | (go_at_call 62; refine (either_calls _ _ _ _).mono ?_; rintro e w1 ⟨rfl, hb⟩; have HF := Aside0.mk (Fr.step (by (with_reducible repeat (first | exact HF.out | apply Fr.alloc | apply Fr.drew | apply Fr.drewN))) hb); clear hb; obtain ⟨s0, s1, s2, s3, s4, s5⟩ := HF.out.facts; obtain ⟨a0, a1, a2, a3, a4, a5, b0, b1, b2, b3, b4, b5⟩ := HF.out.rfacts))
      rw [HD.out]
      exact HF.out.ret rfl rfl rfl
set_option maxHeartbeats 1600000 in
theorem bogus_calls (s : St) (c : Nat) (g : Nat) (w : World) (hc : c < 256) (h : StAt w g s) : Calls Tryd.prog 39 #[.pointer (some ⟨g, 0, none⟩), .int .u8 c] w (RetS (bogusS c) w) := by
  have hu40 := Tryd.underlying40
  have HS := Aside0.mk h
  clear h
  by_cases q1 : c = 62
  · skip
    have d62 : ((c : Int) == 62) = true := by rw [beq_iff_eq]; omega
    have HD := Aside0.mk (show bogusS c = eitherS true 0 18 by unfold bogusS; rw [if_pos q1])
    clear q1
    go_enter Tryd.func39, Tryd.ntmps39
    go_wp2_with (first
      | ((with_reducible refine gate_dst (N := 4) rfl ?_); refine box_event ?hg (N := 4) ?hd (cs := #[.int .i64 0, .string ⟨#[]⟩, .bool false, .string ⟨#[]⟩, .string ⟨#[]⟩, .int .i64 0]) (t := 40) ?hr ?_; (case hd => rfl); (case hg => rfl); (case hr => first | (go_simp; done) | (go_simp; rfl)); intro gb hgb w0_ hbox hb; have HF := Aside0.mk (Fr.start HS.out hgb hbox hb); clear hgb hbox hb; obtain ⟨s0, s1, s2, s3, s4, s5⟩ := HF.out.facts; obtain ⟨a0, a1, a2, a3, a4, a5, b0, b1, b2, b3, b4, b5⟩ := HF.out.rfacts)
      | (go_at_call 62; refine (either_calls _ _ _ _).mono ?_; rintro e w1 ⟨rfl, hb⟩; have HF := Aside0.mk (Fr.step (by (with_reducible repeat (first | exact HF.out | apply Fr.alloc | apply Fr.drew | apply Fr.drewN))) hb); clear hb; obtain ⟨s0, s1, s2, s3, s4, s5⟩ := HF.out.facts; obtain ⟨a0, a1, a2, a3, a4, a5, b0, b1, b2, b3, b4, b5⟩ := HF.out.rfacts))
    rw [HD.out]
    exact HF.out.ret rfl rfl rfl
  · skip
    have d62 : ((c : Int) == 62) = false := by rw [beq_eq_false_iff_ne]; omega
    have HD := Aside0.mk (show bogusS c = eitherS false 0 18 by unfold bogusS; rw [if_neg q1])
    clear q1
    go_enter Tryd.func39, Tryd.ntmps39
    go_wp2_with (first
      | ((with_reducible refine gate_dst (N := 4) rfl ?_); refine box_event ?hg (N := 4) ?hd (cs := #[.int .i64 0, .string ⟨#[]⟩, .bool false, .string ⟨#[]⟩, .string ⟨#[]⟩, .int .i64 0]) (t := 40) ?hr ?_; (case hd => rfl); (case hg => rfl); (case hr => first | (go_simp; done) | (go_simp; rfl)); intro gb hgb w0_ hbox hb; have HF := Aside0.mk (Fr.start HS.out hgb hbox hb); clear hgb hbox hb; obtain ⟨s0, s1, s2, s3, s4, s5⟩ := HF.out.facts; obtain ⟨a0, a1, a2, a3, a4, a5, b0, b1, b2, b3, b4, b5⟩ := HF.out.rfacts)
      | (go_at_call 62; refine (either_calls _ _ _ _).mono ?_; rintro e w1 ⟨rfl, hb⟩; have HF := Aside0.mk (Fr.step (by (with_reducible repeat (first | exact HF.out | apply Fr.alloc | apply Fr.drew | apply Fr.drewN))) hb); clear hb; obtain ⟨s0, s1, s2, s3, s4, s5⟩ := HF.out.facts; obtain ⟨a0, a1, a2, a3, a4, a5, b0, b1, b2, b3, b4, b5⟩ := HF.out.rfacts))
    rw [HD.out]
    exact HF.out.ret rfl rfl rfl
set_option maxHeartbeats 1600000 in
theorem holds_calls (s : St) (c : Nat) (g : Nat) (w : World) (hc : c < 256) (h : StAt w g s) : Calls Tryd.prog 40 #[.pointer (some ⟨g, 0, none⟩), .int .u8 c] w (RetS (holdsS s c) w) := by
  have hu40 := Tryd.underlying40
  have HS := Aside0.mk h
  clear h
  by_cases q1 : c = 60
  · skip
    have d60 : ((c : Int) == 60) = true := by rw [beq_iff_eq]; omega
    have HD := Aside0.mk (show holdsS s c = heldS s 20 by unfold holdsS; rw [if_pos q1])
    clear q1
    go_enter Tryd.func40, Tryd.ntmps40
    go_wp2_with (first
      | ((with_reducible refine gate_dst (N := 4) rfl ?_); refine box_event ?hg (N := 4) ?hd (cs := #[.int .i64 0, .string ⟨#[]⟩, .bool false, .string ⟨#[]⟩, .string ⟨#[]⟩, .int .i64 0]) (t := 40) ?hr ?_; (case hd => rfl); (case hg => rfl); (case hr => first | (go_simp; done) | (go_simp; rfl)); intro gb hgb w0_ hbox hb; have HF := Aside0.mk (Fr.start HS.out hgb hbox hb); clear hgb hbox hb; obtain ⟨s0, s1, s2, s3, s4, s5⟩ := HF.out.facts; obtain ⟨a0, a1, a2, a3, a4, a5, b0, b1, b2, b3, b4, b5⟩ := HF.out.rfacts)
      | (go_at_call 63; refine (held_calls s _ g _ (by first | exact HF.out.st | exact HF.out.st.alloc _ | exact (HF.out.st.alloc _).alloc _)).mono ?_; rintro e w1 ⟨rfl, hb⟩; have HF := Aside0.mk (Fr.step (by (with_reducible repeat (first | exact HF.out | apply Fr.alloc | apply Fr.drew | apply Fr.drewN))) hb); clear hb; obtain ⟨s0, s1, s2, s3, s4, s5⟩ := HF.out.facts; obtain ⟨a0, a1, a2, a3, a4, a5, b0, b1, b2, b3, b4, b5⟩ := HF.out.rfacts))
    rw [HD.out]
    exact HF.out.ret rfl rfl rfl
  · skip
    have d60 : ((c : Int) == 60) = false := by rw [beq_eq_false_iff_ne]; omega
    have HD := Aside0.mk (show holdsS s c = heldS s 19 by unfold holdsS; rw [if_neg q1])
    clear q1
    go_enter Tryd.func40, Tryd.ntmps40
    go_wp2_with (first
      | ((with_reducible refine gate_dst (N := 4) rfl ?_); refine box_event ?hg (N := 4) ?hd (cs := #[.int .i64 0, .string ⟨#[]⟩, .bool false, .string ⟨#[]⟩, .string ⟨#[]⟩, .int .i64 0]) (t := 40) ?hr ?_; (case hd => rfl); (case hg => rfl); (case hr => first | (go_simp; done) | (go_simp; rfl)); intro gb hgb w0_ hbox hb; have HF := Aside0.mk (Fr.start HS.out hgb hbox hb); clear hgb hbox hb; obtain ⟨s0, s1, s2, s3, s4, s5⟩ := HF.out.facts; obtain ⟨a0, a1, a2, a3, a4, a5, b0, b1, b2, b3, b4, b5⟩ := HF.out.rfacts)
      | (go_at_call 63; refine (held_calls s _ g _ (by first | exact HF.out.st | exact HF.out.st.alloc _ | exact (HF.out.st.alloc _).alloc _)).mono ?_; rintro e w1 ⟨rfl, hb⟩; have HF := Aside0.mk (Fr.step (by (with_reducible repeat (first | exact HF.out | apply Fr.alloc | apply Fr.drew | apply Fr.drewN))) hb); clear hb; obtain ⟨s0, s1, s2, s3, s4, s5⟩ := HF.out.facts; obtain ⟨a0, a1, a2, a3, a4, a5, b0, b1, b2, b3, b4, b5⟩ := HF.out.rfacts))
    rw [HD.out]
    exact HF.out.ret rfl rfl rfl
set_option maxHeartbeats 1600000 in
theorem heldLt_calls (s : St) (c : Nat) (g : Nat) (w : World) (hc : c < 256) (h : StAt w g s) : Calls Tryd.prog 41 #[.pointer (some ⟨g, 0, none⟩), .int .u8 c] w (RetS (heldLtS s c) w) := by
  have hu40 := Tryd.underlying40
  have HS := Aside0.mk h
  clear h
  by_cases q1 : c = 47
  · skip
    have d47 : ((c : Int) == 47) = true := by rw [beq_iff_eq]; omega
    have HD := Aside0.mk (show heldLtS s c = heldS s 21 by unfold heldLtS; rw [if_pos q1])
    clear q1
    go_enter Tryd.func41, Tryd.ntmps41
    go_wp2_with (first
      | ((with_reducible refine gate_dst (N := 4) rfl ?_); refine box_event ?hg (N := 4) ?hd (cs := #[.int .i64 0, .string ⟨#[]⟩, .bool false, .string ⟨#[]⟩, .string ⟨#[]⟩, .int .i64 0]) (t := 40) ?hr ?_; (case hd => rfl); (case hg => rfl); (case hr => first | (go_simp; done) | (go_simp; rfl)); intro gb hgb w0_ hbox hb; have HF := Aside0.mk (Fr.start HS.out hgb hbox hb); clear hgb hbox hb; obtain ⟨s0, s1, s2, s3, s4, s5⟩ := HF.out.facts; obtain ⟨a0, a1, a2, a3, a4, a5, b0, b1, b2, b3, b4, b5⟩ := HF.out.rfacts)
      | (go_at_call 63; refine (held_calls s _ g _ (by first | exact HF.out.st | exact HF.out.st.alloc _ | exact (HF.out.st.alloc _).alloc _)).mono ?_; rintro e w1 ⟨rfl, hb⟩; have HF := Aside0.mk (Fr.step (by (with_reducible repeat (first | exact HF.out | apply Fr.alloc | apply Fr.drew | apply Fr.drewN))) hb); clear hb; obtain ⟨s0, s1, s2, s3, s4, s5⟩ := HF.out.facts; obtain ⟨a0, a1, a2, a3, a4, a5, b0, b1, b2, b3, b4, b5⟩ := HF.out.rfacts))
    rw [HD.out]
    exact HF.out.ret rfl rfl rfl
  · skip
    have d47 : ((c : Int) == 47) = false := by rw [beq_eq_false_iff_ne]; omega
    have HD := Aside0.mk (show heldLtS s c = holdsS s c by unfold heldLtS; rw [if_neg q1])
    clear q1
    go_enter Tryd.func41, Tryd.ntmps41
    go_wp2_with (first
      | ((with_reducible refine gate_dst (N := 4) rfl ?_); refine box_event ?hg (N := 4) ?hd (cs := #[.int .i64 0, .string ⟨#[]⟩, .bool false, .string ⟨#[]⟩, .string ⟨#[]⟩, .int .i64 0]) (t := 40) ?hr ?_; (case hd => rfl); (case hg => rfl); (case hr => first | (go_simp; done) | (go_simp; rfl)); intro gb hgb w0_ hbox hb; have HF := Aside0.mk (Fr.start HS.out hgb hbox hb); clear hgb hbox hb; obtain ⟨s0, s1, s2, s3, s4, s5⟩ := HF.out.facts; obtain ⟨a0, a1, a2, a3, a4, a5, b0, b1, b2, b3, b4, b5⟩ := HF.out.rfacts)
      | (go_at_call 40; refine (holds_calls s c g _ (by omega) (by first | exact HF.out.st | exact HF.out.st.alloc _ | exact (HF.out.st.alloc _).alloc _)).mono ?_; rintro e w1 ⟨rfl, hb⟩; have HF := Aside0.mk (Fr.step (by (with_reducible repeat (first | exact HF.out | apply Fr.alloc | apply Fr.drew | apply Fr.drewN))) hb); clear hb; obtain ⟨s0, s1, s2, s3, s4, s5⟩ := HF.out.facts; obtain ⟨a0, a1, a2, a3, a4, a5, b0, b1, b2, b3, b4, b5⟩ := HF.out.rfacts))
    rw [HD.out]
    exact HF.out.ret rfl rfl rfl
end Go.Proofs.YtgbaakopneldaaaDoor.Tk
end
