/- tok's functions of a state and a byte: walked. (Laid by gen_tk2.py, a program of this session.) tok's functions of a state and a byte: walked. (Laid by gen_tk2.py, a program of this session.) -/
import Derived.Test.YtfmcdlbbbmeolaaGreatDoorU0
import Derived.Test.YtfmcdlbbbmeolaaGreatDoorU2
section
namespace Go.Proofs.YtfmcdlbbbmeolaaGreatDoor.Tk
open Go.RowKit Go.Proofs.YtfmcdlbbbmeolaaGreatDoorW.PrintWords Go.Proofs.YtfmcdlbbbmeolaaGreatDoorW.PrintLast Go.Proofs.YtfmcdlbbbmeolaaGreatDoorW.PrintMore
open Go.Proofs.YtfmcdlbbbmeolaaGreatDoor.Refs (lowN lowByte_calls)
attribute [local go_sem ↓] Go.wp_at_zero Go.wp_at_succ
set_option linter.unusedVariables false
set_option linter.unusedSimpArgs false
set_option maxRecDepth 100000
set_option maxHeartbeats 1600000 in
theorem tagName_calls (s : St) (c : Nat) (g : Nat) (w : World) (hc : c < 256) (h : StAt w g s) : Calls Tryz.prog 88 #[.pointer (some ⟨g, 0, none⟩), .int .u8 c] w (RetS (tagNameS s c) w) := by
  have hu40 := Tryz.underlying44
  have HS := Aside0.mk h
  clear h
  have HMo := Aside0.mk (fun w => more_calls s.name c w hc)
  by_cases q1 : ∃ o, betweenS s c 4 = some o
  · skip
    have HBt := Aside0.mk (fun g w h => between_calls s c 4 g w hc h)
    have qx := q1
    obtain ⟨o, ho⟩ := qx
    rw [ho] at HBt
    have HO := Aside0.mk ho
    clear ho
    have HD := Aside0.mk (show tagNameS s c = o by unfold tagNameS; rw [HO.out])
    clear q1
    go_enter Tryz.func88, Tryz.ntmps88
    go_wp2_with (first
      | ((with_reducible refine gate_dst (N := 4) rfl ?_); refine box_event ?hg (N := 4) ?hd (cs := #[.int .i64 0, .string ⟨#[]⟩, .bool false, .string ⟨#[]⟩, .string ⟨#[]⟩, .int .i64 0]) (t := 44) ?hr ?_; (case hd => rfl); (case hg => rfl); (case hr => first | (go_simp; done) | (go_simp; rfl)); intro gb hgb w0_ hbox hb; have HF := Aside0.mk (Fr.start HS.out hgb hbox hb); clear hgb hbox hb; obtain ⟨s0, s1, s2, s3, s4, s5⟩ := HF.out.facts; obtain ⟨a0, a1, a2, a3, a4, a5, b0, b1, b2, b3, b4, b5⟩ := HF.out.rfacts)
      | (go_at_call 153; refine (HBt.out g _ (by first | exact HF.out.st | exact HF.out.st.alloc _ | exact (HF.out.st.alloc _).alloc _)).mono ?_; rintro e w1 ⟨rfl, hb⟩; have HF := Aside0.mk (Fr.step (by (with_reducible repeat (first | exact HF.out | apply Fr.alloc | apply Fr.drew | apply Fr.drewN))) hb); clear hb; have HF := Aside0.mk (HF.out.alloc (.cells #[.int .i64 o.pos, .string o.name, .bool o.fin, .string o.attr, .string o.held, .int .i64 o.read] 44)); obtain ⟨s0, s1, s2, s3, s4, s5⟩ := HF.out.facts; obtain ⟨a0, a1, a2, a3, a4, a5, b0, b1, b2, b3, b4, b5⟩ := HF.out.rfacts))
    rw [HD.out]
    exact HF.out.ret rfl rfl rfl
  · skip
    have HBt := Aside0.mk (fun g w h => between_calls s c 4 g w hc h)
    have hn_ : betweenS s c 4 = none := by cases hq_ : betweenS s c 4 with | none => rfl | some o => exact absurd ⟨o, hq_⟩ q1
    rw [hn_] at HBt
    have HO := Aside0.mk hn_
    clear hn_
    have HD := Aside0.mk (show tagNameS s c = ⟨3, moreS s.name c, s.fin, ⟨#[]⟩, ⟨#[]⟩, 0⟩ by unfold tagNameS; rw [HO.out])
    clear q1
    go_enter Tryz.func88, Tryz.ntmps88
    go_wp2_with (first
      | ((with_reducible refine gate_dst (N := 4) rfl ?_); refine box_event ?hg (N := 4) ?hd (cs := #[.int .i64 0, .string ⟨#[]⟩, .bool false, .string ⟨#[]⟩, .string ⟨#[]⟩, .int .i64 0]) (t := 44) ?hr ?_; (case hd => rfl); (case hg => rfl); (case hr => first | (go_simp; done) | (go_simp; rfl)); intro gb hgb w0_ hbox hb; have HF := Aside0.mk (Fr.start HS.out hgb hbox hb); clear hgb hbox hb; obtain ⟨s0, s1, s2, s3, s4, s5⟩ := HF.out.facts; obtain ⟨a0, a1, a2, a3, a4, a5, b0, b1, b2, b3, b4, b5⟩ := HF.out.rfacts)
      | (go_at_call 153; refine (HBt.out g _ (by first | exact HF.out.st | exact HF.out.st.alloc _ | exact (HF.out.st.alloc _).alloc _)).mono ?_; rintro e w1 ⟨rfl, hb⟩; have HF := Aside0.mk (Fr.step (by (with_reducible repeat (first | exact HF.out | apply Fr.alloc | apply Fr.drew | apply Fr.drewN))) hb); clear hb; have HF := Aside0.mk (HF.out.alloc (.cells #[.int .i64 0, .string ⟨#[]⟩, .bool false, .string ⟨#[]⟩, .string ⟨#[]⟩, .int .i64 0] 44)); obtain ⟨s0, s1, s2, s3, s4, s5⟩ := HF.out.facts; obtain ⟨a0, a1, a2, a3, a4, a5, b0, b1, b2, b3, b4, b5⟩ := HF.out.rfacts))
    refine start_ (n := 12) (S := fun w' => w'.cell? ⟨g, 1, none⟩ = some (.string s.name) ∧ w'.cell? ⟨g, 2, none⟩ = some (.bool s.fin)) (ds := [11]) #[false, false, false, false, false, false, false, false, false, false, false, false] (by kernel_rfl) rfl rfl ⟨s1, s2⟩ (fun hHeld => ?_)
    refine pS 0 15 #[true, false, false, false, false, false, false, false, false, false, false, false] ?_
    refine pS 1 16 #[true, true, false, false, false, false, false, false, false, false, false, false] ?_
    refine pS 2 17 #[true, true, true, false, false, false, false, false, false, false, false, false] ?_
    refine pS 4 19 #[true, true, true, false, true, false, false, false, false, false, false, false] ?_
    refine pS 6 21 #[true, true, true, false, true, false, true, false, false, false, false, false] ?_
    refine pS 7 22 #[true, true, true, false, true, false, true, true, false, false, false, false] ?_
    refine pS 8 23 #[true, true, true, false, true, false, true, true, true, false, false, false] ?_
    refine take_ (i := 3) (N := some 18) (v := ?_) (a' := ?_) #[true, true, true, true, true, false, true, true, true, false, false, false] rfl rfl (by kernel_rfl) (fun _ _ _ h => h) (Or.inl ⟨by rfl, ?_⟩) hHeld ?_ ?_
    rotate_left
    · rintro w' ⟨s0, s1⟩
      go_simp
      with_reducible rfl
    rotate_left
    · simp only [Act.put, zA, zZ, zS, i64_w, i32_w]
      rfl
    refine take_ (i := 9) (N := some 24) (v := ?_) (a' := ?_) #[true, true, true, true, true, false, true, true, true, true, false, false] rfl rfl (by kernel_rfl) (fun _ _ _ h => h) (Or.inl ⟨by rfl, ?_⟩) hHeld ?_ ?_
    rotate_left
    · rintro w' ⟨s0, s1⟩
      go_simp
      with_reducible rfl
    rotate_left
    · simp only [Act.put, zA, zZ, zS, i64_w, i32_w]
      rfl
    refine one_ (i := 5) (N := some 20) #[true, true, true, true, true, true, true, true, true, true, false, false] rfl rfl (by kernel_rfl) (by decide) (fun K hK => ?_)
    refine goes_ Tryz.func152 (by kernel_rfl) rfl #[.string s.name, .int .u8 c] (by rfl) rfl rfl (by simp only [List.map_toArray, List.map_cons, List.map_nil]; rfl) ?_
    with_reducible refine (HMo.out _).mono ?_
    rintro e w3 ⟨rfl, hb3⟩
    refine ⟨_, rfl, ?_⟩
    have HF3 := Aside0.mk (Fr.step HF.out.drew hb3)
    obtain ⟨t0, t1, t2, t3, t4, t5⟩ := HF3.out.facts
    obtain ⟨a0, a1, a2, a3, a4, a5, b0, b1, b2, b3, b4, b5⟩ := HF3.out.rfacts
    refine hK.out _ _ ⟨t1, t2⟩ (fun hHeld => ?_)
    clear hK K
    refine norm_ (a' := ?_) ?_ ?_
    rotate_left
    · show Act.put _ (some 20) _ = _
      simp only [Act.put, zA, zZ, zS, i64_w, i32_w]
      rfl
    refine pS 10 25 #[true, true, true, true, true, true, true, true, true, true, true, false] ?_
    refine last_ (i := 11) (N := none) #[true, true, true, true, true, true, true, true, true, true, true, true] rfl rfl (by kernel_rfl) (by decide) (fun K hK => ?_)
    refine skip_ (w1 := ?_) (by rfl) rfl ?_ ?_
    rotate_left
    · go_simp
      rfl
    refine hK.out _ _ ?_
    clear hK K
    refine done_ (by kernel_rfl) ?_
    go_wp2
    rw [HD.out]
    exact HF3.out.ret rfl rfl rfl
set_option maxHeartbeats 1600000 in
theorem begins_calls (s : St) (c : Nat) (g : Nat) (w : World) (hc : c < 256) (h : StAt w g s) : Calls Tryz.prog 89 #[.pointer (some ⟨g, 0, none⟩), .int .u8 c] w (RetS (beginsS s c) w) := by
  have hu40 := Tryz.underlying44
  have HS := Aside0.mk h
  clear h
  by_cases q1 : ∃ o, betweenS s c 4 = some o
  · skip
    have HBt := Aside0.mk (fun g w h => between_calls s c 4 g w hc h)
    have qx := q1
    obtain ⟨o, ho⟩ := qx
    rw [ho] at HBt
    have HO := Aside0.mk ho
    clear ho
    have HD := Aside0.mk (show beginsS s c = o by unfold beginsS; rw [HO.out])
    clear q1
    go_enter Tryz.func89, Tryz.ntmps89
    go_wp2_with (first
      | ((with_reducible refine gate_dst (N := 4) rfl ?_); refine box_event ?hg (N := 4) ?hd (cs := #[.int .i64 0, .string ⟨#[]⟩, .bool false, .string ⟨#[]⟩, .string ⟨#[]⟩, .int .i64 0]) (t := 44) ?hr ?_; (case hd => rfl); (case hg => rfl); (case hr => first | (go_simp; done) | (go_simp; rfl)); intro gb hgb w0_ hbox hb; have HF := Aside0.mk (Fr.start HS.out hgb hbox hb); clear hgb hbox hb; obtain ⟨s0, s1, s2, s3, s4, s5⟩ := HF.out.facts; obtain ⟨a0, a1, a2, a3, a4, a5, b0, b1, b2, b3, b4, b5⟩ := HF.out.rfacts)
      | (go_at_call 153; refine (HBt.out g _ (by first | exact HF.out.st | exact HF.out.st.alloc _ | exact (HF.out.st.alloc _).alloc _)).mono ?_; rintro e w1 ⟨rfl, hb⟩; have HF := Aside0.mk (Fr.step (by (with_reducible repeat (first | exact HF.out | apply Fr.alloc | apply Fr.drew | apply Fr.drewN))) hb); clear hb; have HF := Aside0.mk (HF.out.alloc (.cells #[.int .i64 o.pos, .string o.name, .bool o.fin, .string o.attr, .string o.held, .int .i64 o.read] 44)); obtain ⟨s0, s1, s2, s3, s4, s5⟩ := HF.out.facts; obtain ⟨a0, a1, a2, a3, a4, a5, b0, b1, b2, b3, b4, b5⟩ := HF.out.rfacts))
    rw [HD.out]
    exact HF.out.ret rfl rfl rfl
  · skip
    have HBt := Aside0.mk (fun g w h => between_calls s c 4 g w hc h)
    have hn_ : betweenS s c 4 = none := by cases hq_ : betweenS s c 4 with | none => rfl | some o => exact absurd ⟨o, hq_⟩ q1
    rw [hn_] at HBt
    have HO := Aside0.mk hn_
    clear hn_
    have HD := Aside0.mk (show beginsS s c = attrS s 5 (moreS ⟨#[]⟩ c) by unfold beginsS; rw [HO.out])
    clear q1
    go_enter Tryz.func89, Tryz.ntmps89
    go_wp2_with (first
      | ((with_reducible refine gate_dst (N := 4) rfl ?_); refine box_event ?hg (N := 4) ?hd (cs := #[.int .i64 0, .string ⟨#[]⟩, .bool false, .string ⟨#[]⟩, .string ⟨#[]⟩, .int .i64 0]) (t := 44) ?hr ?_; (case hd => rfl); (case hg => rfl); (case hr => first | (go_simp; done) | (go_simp; rfl)); intro gb hgb w0_ hbox hb; have HF := Aside0.mk (Fr.start HS.out hgb hbox hb); clear hgb hbox hb; obtain ⟨s0, s1, s2, s3, s4, s5⟩ := HF.out.facts; obtain ⟨a0, a1, a2, a3, a4, a5, b0, b1, b2, b3, b4, b5⟩ := HF.out.rfacts)
      | (go_at_call 153; refine (HBt.out g _ (by first | exact HF.out.st | exact HF.out.st.alloc _ | exact (HF.out.st.alloc _).alloc _)).mono ?_; rintro e w1 ⟨rfl, hb⟩; have HF := Aside0.mk (Fr.step (by (with_reducible repeat (first | exact HF.out | apply Fr.alloc | apply Fr.drew | apply Fr.drewN))) hb); clear hb; have HF := Aside0.mk (HF.out.alloc (.cells #[.int .i64 0, .string ⟨#[]⟩, .bool false, .string ⟨#[]⟩, .string ⟨#[]⟩, .int .i64 0] 44)); obtain ⟨s0, s1, s2, s3, s4, s5⟩ := HF.out.facts; obtain ⟨a0, a1, a2, a3, a4, a5, b0, b1, b2, b3, b4, b5⟩ := HF.out.rfacts)
      | (go_at_call 152; refine (more_calls _ c _ (by omega)).mono ?_; rintro e w1 ⟨rfl, hb⟩; have HF := Aside0.mk (Fr.step (by (with_reducible repeat (first | exact HF.out | apply Fr.alloc | apply Fr.drew | apply Fr.drewN))) hb); clear hb; obtain ⟨s0, s1, s2, s3, s4, s5⟩ := HF.out.facts; obtain ⟨a0, a1, a2, a3, a4, a5, b0, b1, b2, b3, b4, b5⟩ := HF.out.rfacts)
      | (go_at_call 154; refine (attr_calls s _ _ g _ (by first | exact HF.out.st | exact HF.out.st.alloc _ | exact (HF.out.st.alloc _).alloc _)).mono ?_; rintro e w1 ⟨rfl, hb⟩; have HF := Aside0.mk (Fr.step (by (with_reducible repeat (first | exact HF.out | apply Fr.alloc | apply Fr.drew | apply Fr.drewN))) hb); clear hb; obtain ⟨s0, s1, s2, s3, s4, s5⟩ := HF.out.facts; obtain ⟨a0, a1, a2, a3, a4, a5, b0, b1, b2, b3, b4, b5⟩ := HF.out.rfacts))
    rw [HD.out]
    exact HF.out.ret rfl rfl rfl
set_option maxHeartbeats 1600000 in
theorem names_calls (s : St) (c : Nat) (nm : ByteArray) (g : Nat) (w : World) (hc : c < 256) (h : StAt w g s) : Calls Tryz.prog 155 #[.pointer (some ⟨g, 0, none⟩), .int .u8 c, .string nm] w (RetS (namesS s c nm) w) := by
  have hu40 := Tryz.underlying44
  have HS := Aside0.mk h
  clear h
  by_cases q1 : blankN c = true
  · skip
    have HBl := Aside0.mk (fun w => blank_calls c w)
    rw [q1] at HBl
    have HD := Aside0.mk (show namesS s c nm = attrS s 6 s.attr by unfold namesS; rw [if_pos q1])
    clear q1
    go_enter Tryz.func155, Tryz.ntmps155
    go_wp2_with (first
      | ((with_reducible refine gate_dst (N := 6) rfl ?_); refine box_event ?hg (N := 6) ?hd (cs := #[.int .i64 0, .string ⟨#[]⟩, .bool false, .string ⟨#[]⟩, .string ⟨#[]⟩, .int .i64 0]) (t := 44) ?hr ?_; (case hd => rfl); (case hg => rfl); (case hr => first | (go_simp; done) | (go_simp; rfl)); intro gb hgb w0_ hbox hb; have HF := Aside0.mk (Fr.start HS.out hgb hbox hb); clear hgb hbox hb; obtain ⟨s0, s1, s2, s3, s4, s5⟩ := HF.out.facts; obtain ⟨a0, a1, a2, a3, a4, a5, b0, b1, b2, b3, b4, b5⟩ := HF.out.rfacts)
      | (go_at_call 156; refine (HBl.out _).mono ?_; rintro e w1 ⟨rfl, rfl⟩)
      | (go_at_call 154; refine (attr_calls s _ _ g _ (by first | exact HF.out.st | exact HF.out.st.alloc _ | exact (HF.out.st.alloc _).alloc _)).mono ?_; rintro e w1 ⟨rfl, hb⟩; have HF := Aside0.mk (Fr.step (by (with_reducible repeat (first | exact HF.out | apply Fr.alloc | apply Fr.drew | apply Fr.drewN))) hb); clear hb; obtain ⟨s0, s1, s2, s3, s4, s5⟩ := HF.out.facts; obtain ⟨a0, a1, a2, a3, a4, a5, b0, b1, b2, b3, b4, b5⟩ := HF.out.rfacts))
    rw [HD.out]
    exact HF.out.ret rfl rfl rfl
  · skip
    have HBl := Aside0.mk (fun w => blank_calls c w)
    rw [Bool.eq_false_iff.2 q1] at HBl
    by_cases q2 : c = 61
    · skip
      have d61 : ((c : Int) == 61) = true := by rw [beq_iff_eq]; omega
      have HD := Aside0.mk (show namesS s c nm = attrS s 7 s.attr by unfold namesS; rw [if_neg q1, if_pos q2])
      clear q1 q2
      go_enter Tryz.func155, Tryz.ntmps155
      go_wp2_with (first
        | ((with_reducible refine gate_dst (N := 6) rfl ?_); refine box_event ?hg (N := 6) ?hd (cs := #[.int .i64 0, .string ⟨#[]⟩, .bool false, .string ⟨#[]⟩, .string ⟨#[]⟩, .int .i64 0]) (t := 44) ?hr ?_; (case hd => rfl); (case hg => rfl); (case hr => first | (go_simp; done) | (go_simp; rfl)); intro gb hgb w0_ hbox hb; have HF := Aside0.mk (Fr.start HS.out hgb hbox hb); clear hgb hbox hb; obtain ⟨s0, s1, s2, s3, s4, s5⟩ := HF.out.facts; obtain ⟨a0, a1, a2, a3, a4, a5, b0, b1, b2, b3, b4, b5⟩ := HF.out.rfacts)
        | (go_at_call 156; refine (HBl.out _).mono ?_; rintro e w1 ⟨rfl, rfl⟩)
        | (go_at_call 154; refine (attr_calls s _ _ g _ (by first | exact HF.out.st | exact HF.out.st.alloc _ | exact (HF.out.st.alloc _).alloc _)).mono ?_; rintro e w1 ⟨rfl, hb⟩; have HF := Aside0.mk (Fr.step (by (with_reducible repeat (first | exact HF.out | apply Fr.alloc | apply Fr.drew | apply Fr.drewN))) hb); clear hb; obtain ⟨s0, s1, s2, s3, s4, s5⟩ := HF.out.facts; obtain ⟨a0, a1, a2, a3, a4, a5, b0, b1, b2, b3, b4, b5⟩ := HF.out.rfacts))
      rw [HD.out]
      exact HF.out.ret rfl rfl rfl
    · skip
      have d61 : ((c : Int) == 61) = false := by rw [beq_eq_false_iff_ne]; omega
      by_cases q3 : ∃ o, betweenS s c 0 = some o
      · skip
        have HBt := Aside0.mk (fun g w h => between_calls s c 0 g w hc h)
        have qx := q3
        obtain ⟨o, ho⟩ := qx
        rw [ho] at HBt
        have HO := Aside0.mk ho
        clear ho
        have HD := Aside0.mk (show namesS s c nm = o by unfold namesS; rw [if_neg q1, if_neg q2, HO.out])
        clear q1 q2 q3
        go_enter Tryz.func155, Tryz.ntmps155
        go_wp2_with (first
          | ((with_reducible refine gate_dst (N := 6) rfl ?_); refine box_event ?hg (N := 6) ?hd (cs := #[.int .i64 0, .string ⟨#[]⟩, .bool false, .string ⟨#[]⟩, .string ⟨#[]⟩, .int .i64 0]) (t := 44) ?hr ?_; (case hd => rfl); (case hg => rfl); (case hr => first | (go_simp; done) | (go_simp; rfl)); intro gb hgb w0_ hbox hb; have HF := Aside0.mk (Fr.start HS.out hgb hbox hb); clear hgb hbox hb; obtain ⟨s0, s1, s2, s3, s4, s5⟩ := HF.out.facts; obtain ⟨a0, a1, a2, a3, a4, a5, b0, b1, b2, b3, b4, b5⟩ := HF.out.rfacts)
          | (go_at_call 156; refine (HBl.out _).mono ?_; rintro e w1 ⟨rfl, rfl⟩)
          | (go_at_call 153; refine (HBt.out g _ (by first | exact HF.out.st | exact HF.out.st.alloc _ | exact (HF.out.st.alloc _).alloc _)).mono ?_; rintro e w1 ⟨rfl, hb⟩; have HF := Aside0.mk (Fr.step (by (with_reducible repeat (first | exact HF.out | apply Fr.alloc | apply Fr.drew | apply Fr.drewN))) hb); clear hb; have HF := Aside0.mk (HF.out.alloc (.cells #[.int .i64 o.pos, .string o.name, .bool o.fin, .string o.attr, .string o.held, .int .i64 o.read] 44)); obtain ⟨s0, s1, s2, s3, s4, s5⟩ := HF.out.facts; obtain ⟨a0, a1, a2, a3, a4, a5, b0, b1, b2, b3, b4, b5⟩ := HF.out.rfacts))
        rw [HD.out]
        exact HF.out.ret rfl rfl rfl
      · skip
        have HBt := Aside0.mk (fun g w h => between_calls s c 0 g w hc h)
        have hn_ : betweenS s c 0 = none := by cases hq_ : betweenS s c 0 with | none => rfl | some o => exact absurd ⟨o, hq_⟩ q3
        rw [hn_] at HBt
        have HO := Aside0.mk hn_
        clear hn_
        have HD := Aside0.mk (show namesS s c nm = attrS s 5 (moreS nm c) by unfold namesS; rw [if_neg q1, if_neg q2, HO.out])
        clear q1 q2 q3
        go_enter Tryz.func155, Tryz.ntmps155
        go_wp2_with (first
          | ((with_reducible refine gate_dst (N := 6) rfl ?_); refine box_event ?hg (N := 6) ?hd (cs := #[.int .i64 0, .string ⟨#[]⟩, .bool false, .string ⟨#[]⟩, .string ⟨#[]⟩, .int .i64 0]) (t := 44) ?hr ?_; (case hd => rfl); (case hg => rfl); (case hr => first | (go_simp; done) | (go_simp; rfl)); intro gb hgb w0_ hbox hb; have HF := Aside0.mk (Fr.start HS.out hgb hbox hb); clear hgb hbox hb; obtain ⟨s0, s1, s2, s3, s4, s5⟩ := HF.out.facts; obtain ⟨a0, a1, a2, a3, a4, a5, b0, b1, b2, b3, b4, b5⟩ := HF.out.rfacts)
          | (go_at_call 156; refine (HBl.out _).mono ?_; rintro e w1 ⟨rfl, rfl⟩)
          | (go_at_call 153; refine (HBt.out g _ (by first | exact HF.out.st | exact HF.out.st.alloc _ | exact (HF.out.st.alloc _).alloc _)).mono ?_; rintro e w1 ⟨rfl, hb⟩; have HF := Aside0.mk (Fr.step (by (with_reducible repeat (first | exact HF.out | apply Fr.alloc | apply Fr.drew | apply Fr.drewN))) hb); clear hb; have HF := Aside0.mk (HF.out.alloc (.cells #[.int .i64 0, .string ⟨#[]⟩, .bool false, .string ⟨#[]⟩, .string ⟨#[]⟩, .int .i64 0] 44)); obtain ⟨s0, s1, s2, s3, s4, s5⟩ := HF.out.facts; obtain ⟨a0, a1, a2, a3, a4, a5, b0, b1, b2, b3, b4, b5⟩ := HF.out.rfacts)
          | (go_at_call 152; refine (more_calls _ c _ (by omega)).mono ?_; rintro e w1 ⟨rfl, hb⟩; have HF := Aside0.mk (Fr.step (by (with_reducible repeat (first | exact HF.out | apply Fr.alloc | apply Fr.drew | apply Fr.drewN))) hb); clear hb; obtain ⟨s0, s1, s2, s3, s4, s5⟩ := HF.out.facts; obtain ⟨a0, a1, a2, a3, a4, a5, b0, b1, b2, b3, b4, b5⟩ := HF.out.rfacts)
          | (go_at_call 154; refine (attr_calls s _ _ g _ (by first | exact HF.out.st | exact HF.out.st.alloc _ | exact (HF.out.st.alloc _).alloc _)).mono ?_; rintro e w1 ⟨rfl, hb⟩; have HF := Aside0.mk (Fr.step (by (with_reducible repeat (first | exact HF.out | apply Fr.alloc | apply Fr.drew | apply Fr.drewN))) hb); clear hb; obtain ⟨s0, s1, s2, s3, s4, s5⟩ := HF.out.facts; obtain ⟨a0, a1, a2, a3, a4, a5, b0, b1, b2, b3, b4, b5⟩ := HF.out.rfacts))
        rw [HD.out]
        exact HF.out.ret rfl rfl rfl
set_option maxHeartbeats 1600000 in
theorem attrName_calls (s : St) (c : Nat) (g : Nat) (w : World) (hc : c < 256) (h : StAt w g s) : Calls Tryz.prog 90 #[.pointer (some ⟨g, 0, none⟩), .int .u8 c] w (RetS (namesS s c s.attr) w) := by
  have hu40 := Tryz.underlying44
  have HS := Aside0.mk h
  clear h
  go_enter Tryz.func90, Tryz.ntmps90
  go_wp2_with (first
    | ((with_reducible refine gate_dst (N := 4) rfl ?_); refine box_event ?hg (N := 4) ?hd (cs := #[.int .i64 0, .string ⟨#[]⟩, .bool false, .string ⟨#[]⟩, .string ⟨#[]⟩, .int .i64 0]) (t := 44) ?hr ?_; (case hd => rfl); (case hg => rfl); (case hr => first | (go_simp; done) | (go_simp; rfl)); intro gb hgb w0_ hbox hb; have HF := Aside0.mk (Fr.start HS.out hgb hbox hb); clear hgb hbox hb; obtain ⟨s0, s1, s2, s3, s4, s5⟩ := HF.out.facts; obtain ⟨a0, a1, a2, a3, a4, a5, b0, b1, b2, b3, b4, b5⟩ := HF.out.rfacts)
    | (go_at_call 155; refine (names_calls s c _ g _ (by omega) (by first | exact HF.out.st | exact HF.out.st.alloc _ | exact (HF.out.st.alloc _).alloc _)).mono ?_; rintro e w1 ⟨rfl, hb⟩; have HF := Aside0.mk (Fr.step (by (with_reducible repeat (first | exact HF.out | apply Fr.alloc | apply Fr.drew | apply Fr.drewN))) hb); clear hb; obtain ⟨s0, s1, s2, s3, s4, s5⟩ := HF.out.facts; obtain ⟨a0, a1, a2, a3, a4, a5, b0, b1, b2, b3, b4, b5⟩ := HF.out.rfacts))
  exact HF.out.ret rfl rfl rfl
set_option maxHeartbeats 1600000 in
theorem afterName_calls (s : St) (c : Nat) (g : Nat) (w : World) (hc : c < 256) (h : StAt w g s) : Calls Tryz.prog 91 #[.pointer (some ⟨g, 0, none⟩), .int .u8 c] w (RetS (namesS s c ⟨#[]⟩) w) := by
  have hu40 := Tryz.underlying44
  have HS := Aside0.mk h
  clear h
  go_enter Tryz.func91, Tryz.ntmps91
  go_wp2_with (first
    | ((with_reducible refine gate_dst (N := 4) rfl ?_); refine box_event ?hg (N := 4) ?hd (cs := #[.int .i64 0, .string ⟨#[]⟩, .bool false, .string ⟨#[]⟩, .string ⟨#[]⟩, .int .i64 0]) (t := 44) ?hr ?_; (case hd => rfl); (case hg => rfl); (case hr => first | (go_simp; done) | (go_simp; rfl)); intro gb hgb w0_ hbox hb; have HF := Aside0.mk (Fr.start HS.out hgb hbox hb); clear hgb hbox hb; obtain ⟨s0, s1, s2, s3, s4, s5⟩ := HF.out.facts; obtain ⟨a0, a1, a2, a3, a4, a5, b0, b1, b2, b3, b4, b5⟩ := HF.out.rfacts)
    | (go_at_call 155; refine (names_calls s c _ g _ (by omega) (by first | exact HF.out.st | exact HF.out.st.alloc _ | exact (HF.out.st.alloc _).alloc _)).mono ?_; rintro e w1 ⟨rfl, hb⟩; have HF := Aside0.mk (Fr.step (by (with_reducible repeat (first | exact HF.out | apply Fr.alloc | apply Fr.drew | apply Fr.drewN))) hb); clear hb; obtain ⟨s0, s1, s2, s3, s4, s5⟩ := HF.out.facts; obtain ⟨a0, a1, a2, a3, a4, a5, b0, b1, b2, b3, b4, b5⟩ := HF.out.rfacts))
  exact HF.out.ret rfl rfl rfl
set_option maxHeartbeats 1600000 in
theorem beforeValue_calls (s : St) (c : Nat) (g : Nat) (w : World) (hc : c < 256) (h : StAt w g s) : Calls Tryz.prog 92 #[.pointer (some ⟨g, 0, none⟩), .int .u8 c] w (RetS (beforeValueS s c) w) := by
  have hu40 := Tryz.underlying44
  have HS := Aside0.mk h
  clear h
  by_cases q1 : blankN c = true
  · skip
    have HBl := Aside0.mk (fun w => blank_calls c w)
    rw [q1] at HBl
    have HD := Aside0.mk (show beforeValueS s c = attrS s 7 s.attr by unfold beforeValueS; rw [if_pos q1])
    clear q1
    go_enter Tryz.func92, Tryz.ntmps92
    go_wp2_with (first
      | ((with_reducible refine gate_dst (N := 4) rfl ?_); refine box_event ?hg (N := 4) ?hd (cs := #[.int .i64 0, .string ⟨#[]⟩, .bool false, .string ⟨#[]⟩, .string ⟨#[]⟩, .int .i64 0]) (t := 44) ?hr ?_; (case hd => rfl); (case hg => rfl); (case hr => first | (go_simp; done) | (go_simp; rfl)); intro gb hgb w0_ hbox hb; have HF := Aside0.mk (Fr.start HS.out hgb hbox hb); clear hgb hbox hb; obtain ⟨s0, s1, s2, s3, s4, s5⟩ := HF.out.facts; obtain ⟨a0, a1, a2, a3, a4, a5, b0, b1, b2, b3, b4, b5⟩ := HF.out.rfacts)
      | (go_at_call 156; refine (HBl.out _).mono ?_; rintro e w1 ⟨rfl, rfl⟩)
      | (go_at_call 154; refine (attr_calls s _ _ g _ (by first | exact HF.out.st | exact HF.out.st.alloc _ | exact (HF.out.st.alloc _).alloc _)).mono ?_; rintro e w1 ⟨rfl, hb⟩; have HF := Aside0.mk (Fr.step (by (with_reducible repeat (first | exact HF.out | apply Fr.alloc | apply Fr.drew | apply Fr.drewN))) hb); clear hb; obtain ⟨s0, s1, s2, s3, s4, s5⟩ := HF.out.facts; obtain ⟨a0, a1, a2, a3, a4, a5, b0, b1, b2, b3, b4, b5⟩ := HF.out.rfacts))
    rw [HD.out]
    exact HF.out.ret rfl rfl rfl
  · skip
    have HBl := Aside0.mk (fun w => blank_calls c w)
    rw [Bool.eq_false_iff.2 q1] at HBl
    by_cases q2 : c = 34
    · skip
      have d34 : ((c : Int) == 34) = true := by rw [beq_iff_eq]; omega
      have HD := Aside0.mk (show beforeValueS s c = attrS s 8 s.attr by unfold beforeValueS; rw [if_neg q1, if_pos q2])
      clear q1 q2
      go_enter Tryz.func92, Tryz.ntmps92
      go_wp2_with (first
        | ((with_reducible refine gate_dst (N := 4) rfl ?_); refine box_event ?hg (N := 4) ?hd (cs := #[.int .i64 0, .string ⟨#[]⟩, .bool false, .string ⟨#[]⟩, .string ⟨#[]⟩, .int .i64 0]) (t := 44) ?hr ?_; (case hd => rfl); (case hg => rfl); (case hr => first | (go_simp; done) | (go_simp; rfl)); intro gb hgb w0_ hbox hb; have HF := Aside0.mk (Fr.start HS.out hgb hbox hb); clear hgb hbox hb; obtain ⟨s0, s1, s2, s3, s4, s5⟩ := HF.out.facts; obtain ⟨a0, a1, a2, a3, a4, a5, b0, b1, b2, b3, b4, b5⟩ := HF.out.rfacts)
        | (go_at_call 156; refine (HBl.out _).mono ?_; rintro e w1 ⟨rfl, rfl⟩)
        | (go_at_call 154; refine (attr_calls s _ _ g _ (by first | exact HF.out.st | exact HF.out.st.alloc _ | exact (HF.out.st.alloc _).alloc _)).mono ?_; rintro e w1 ⟨rfl, hb⟩; have HF := Aside0.mk (Fr.step (by (with_reducible repeat (first | exact HF.out | apply Fr.alloc | apply Fr.drew | apply Fr.drewN))) hb); clear hb; obtain ⟨s0, s1, s2, s3, s4, s5⟩ := HF.out.facts; obtain ⟨a0, a1, a2, a3, a4, a5, b0, b1, b2, b3, b4, b5⟩ := HF.out.rfacts))
      rw [HD.out]
      exact HF.out.ret rfl rfl rfl
    · skip
      have d34 : ((c : Int) == 34) = false := by rw [beq_eq_false_iff_ne]; omega
      by_cases q3 : c = 39
      · skip
        have d39 : ((c : Int) == 39) = true := by rw [beq_iff_eq]; omega
        have HD := Aside0.mk (show beforeValueS s c = attrS s 9 s.attr by unfold beforeValueS; rw [if_neg q1, if_neg q2, if_pos q3])
        clear q1 q2 q3
        go_enter Tryz.func92, Tryz.ntmps92
        go_wp2_with (first
          | ((with_reducible refine gate_dst (N := 4) rfl ?_); refine box_event ?hg (N := 4) ?hd (cs := #[.int .i64 0, .string ⟨#[]⟩, .bool false, .string ⟨#[]⟩, .string ⟨#[]⟩, .int .i64 0]) (t := 44) ?hr ?_; (case hd => rfl); (case hg => rfl); (case hr => first | (go_simp; done) | (go_simp; rfl)); intro gb hgb w0_ hbox hb; have HF := Aside0.mk (Fr.start HS.out hgb hbox hb); clear hgb hbox hb; obtain ⟨s0, s1, s2, s3, s4, s5⟩ := HF.out.facts; obtain ⟨a0, a1, a2, a3, a4, a5, b0, b1, b2, b3, b4, b5⟩ := HF.out.rfacts)
          | (go_at_call 156; refine (HBl.out _).mono ?_; rintro e w1 ⟨rfl, rfl⟩)
          | (go_at_call 154; refine (attr_calls s _ _ g _ (by first | exact HF.out.st | exact HF.out.st.alloc _ | exact (HF.out.st.alloc _).alloc _)).mono ?_; rintro e w1 ⟨rfl, hb⟩; have HF := Aside0.mk (Fr.step (by (with_reducible repeat (first | exact HF.out | apply Fr.alloc | apply Fr.drew | apply Fr.drewN))) hb); clear hb; obtain ⟨s0, s1, s2, s3, s4, s5⟩ := HF.out.facts; obtain ⟨a0, a1, a2, a3, a4, a5, b0, b1, b2, b3, b4, b5⟩ := HF.out.rfacts))
        rw [HD.out]
        exact HF.out.ret rfl rfl rfl
      · skip
        have d39 : ((c : Int) == 39) = false := by rw [beq_eq_false_iff_ne]; omega
        by_cases q4 : c = 62
        · skip
          have d62 : ((c : Int) == 62) = true := by rw [beq_iff_eq]; omega
          have HD := Aside0.mk (show beforeValueS s c = closesS s by unfold beforeValueS; rw [if_neg q1, if_neg q2, if_neg q3, if_pos q4])
          clear q1 q2 q3 q4
          go_enter Tryz.func92, Tryz.ntmps92
          go_wp2_with (first
            | ((with_reducible refine gate_dst (N := 4) rfl ?_); refine box_event ?hg (N := 4) ?hd (cs := #[.int .i64 0, .string ⟨#[]⟩, .bool false, .string ⟨#[]⟩, .string ⟨#[]⟩, .int .i64 0]) (t := 44) ?hr ?_; (case hd => rfl); (case hg => rfl); (case hr => first | (go_simp; done) | (go_simp; rfl)); intro gb hgb w0_ hbox hb; have HF := Aside0.mk (Fr.start HS.out hgb hbox hb); clear hgb hbox hb; obtain ⟨s0, s1, s2, s3, s4, s5⟩ := HF.out.facts; obtain ⟨a0, a1, a2, a3, a4, a5, b0, b1, b2, b3, b4, b5⟩ := HF.out.rfacts)
            | (go_at_call 156; refine (HBl.out _).mono ?_; rintro e w1 ⟨rfl, rfl⟩)
            | (go_at_call 157; refine (closes_calls s g _ (by first | exact HF.out.st | exact HF.out.st.alloc _ | exact (HF.out.st.alloc _).alloc _)).mono ?_; rintro e w1 ⟨rfl, hb⟩; have HF := Aside0.mk (Fr.step (by (with_reducible repeat (first | exact HF.out | apply Fr.alloc | apply Fr.drew | apply Fr.drewN))) hb); clear hb; obtain ⟨s0, s1, s2, s3, s4, s5⟩ := HF.out.facts; obtain ⟨a0, a1, a2, a3, a4, a5, b0, b1, b2, b3, b4, b5⟩ := HF.out.rfacts))
          rw [HD.out]
          exact HF.out.ret rfl rfl rfl
        · skip
          have d62 : ((c : Int) == 62) = false := by rw [beq_eq_false_iff_ne]; omega
          have HD := Aside0.mk (show beforeValueS s c = attrS s 10 s.attr by unfold beforeValueS; rw [if_neg q1, if_neg q2, if_neg q3, if_neg q4])
          clear q1 q2 q3 q4
          go_enter Tryz.func92, Tryz.ntmps92
          go_wp2_with (first
            | ((with_reducible refine gate_dst (N := 4) rfl ?_); refine box_event ?hg (N := 4) ?hd (cs := #[.int .i64 0, .string ⟨#[]⟩, .bool false, .string ⟨#[]⟩, .string ⟨#[]⟩, .int .i64 0]) (t := 44) ?hr ?_; (case hd => rfl); (case hg => rfl); (case hr => first | (go_simp; done) | (go_simp; rfl)); intro gb hgb w0_ hbox hb; have HF := Aside0.mk (Fr.start HS.out hgb hbox hb); clear hgb hbox hb; obtain ⟨s0, s1, s2, s3, s4, s5⟩ := HF.out.facts; obtain ⟨a0, a1, a2, a3, a4, a5, b0, b1, b2, b3, b4, b5⟩ := HF.out.rfacts)
            | (go_at_call 156; refine (HBl.out _).mono ?_; rintro e w1 ⟨rfl, rfl⟩)
            | (go_at_call 154; refine (attr_calls s _ _ g _ (by first | exact HF.out.st | exact HF.out.st.alloc _ | exact (HF.out.st.alloc _).alloc _)).mono ?_; rintro e w1 ⟨rfl, hb⟩; have HF := Aside0.mk (Fr.step (by (with_reducible repeat (first | exact HF.out | apply Fr.alloc | apply Fr.drew | apply Fr.drewN))) hb); clear hb; obtain ⟨s0, s1, s2, s3, s4, s5⟩ := HF.out.facts; obtain ⟨a0, a1, a2, a3, a4, a5, b0, b1, b2, b3, b4, b5⟩ := HF.out.rfacts))
          rw [HD.out]
          exact HF.out.ret rfl rfl rfl
set_option maxHeartbeats 1600000 in
theorem quoted_calls (s : St) (c : Nat) (q : Nat) (g : Nat) (w : World) (hc : c < 256) (h : StAt w g s) : Calls Tryz.prog 158 #[.pointer (some ⟨g, 0, none⟩), .int .u8 c, .int .u8 q] w (RetS (quotedS s c q) w) := by
  have hu40 := Tryz.underlying44
  have HS := Aside0.mk h
  clear h
  by_cases q1 : c = q
  · skip
    have dq : ((c : Int) == (q : Int)) = true := by rw [beq_iff_eq]; omega
    have HD := Aside0.mk (show quotedS s c q = inS s 11 by unfold quotedS; rw [if_pos q1])
    clear q1
    go_enter Tryz.func158, Tryz.ntmps158
    go_wp2_with (first
      | ((with_reducible refine gate_dst (N := 6) rfl ?_); refine box_event ?hg (N := 6) ?hd (cs := #[.int .i64 0, .string ⟨#[]⟩, .bool false, .string ⟨#[]⟩, .string ⟨#[]⟩, .int .i64 0]) (t := 44) ?hr ?_; (case hd => rfl); (case hg => rfl); (case hr => first | (go_simp; done) | (go_simp; rfl)); intro gb hgb w0_ hbox hb; have HF := Aside0.mk (Fr.start HS.out hgb hbox hb); clear hgb hbox hb; obtain ⟨s0, s1, s2, s3, s4, s5⟩ := HF.out.facts; obtain ⟨a0, a1, a2, a3, a4, a5, b0, b1, b2, b3, b4, b5⟩ := HF.out.rfacts)
      | (go_at_call 159; refine (in_calls s _ g _ (by first | exact HF.out.st | exact HF.out.st.alloc _ | exact (HF.out.st.alloc _).alloc _)).mono ?_; rintro e w1 ⟨rfl, hb⟩; have HF := Aside0.mk (Fr.step (by (with_reducible repeat (first | exact HF.out | apply Fr.alloc | apply Fr.drew | apply Fr.drewN))) hb); clear hb; obtain ⟨s0, s1, s2, s3, s4, s5⟩ := HF.out.facts; obtain ⟨a0, a1, a2, a3, a4, a5, b0, b1, b2, b3, b4, b5⟩ := HF.out.rfacts))
    rw [HD.out]
    exact HF.out.ret rfl rfl rfl
  · skip
    have dq : ((c : Int) == (q : Int)) = false := by rw [beq_eq_false_iff_ne]; omega
    have HD := Aside0.mk (show quotedS s c q = attrS s s.pos s.attr by unfold quotedS; rw [if_neg q1])
    clear q1
    go_enter Tryz.func158, Tryz.ntmps158
    go_wp2_with (first
      | ((with_reducible refine gate_dst (N := 6) rfl ?_); refine box_event ?hg (N := 6) ?hd (cs := #[.int .i64 0, .string ⟨#[]⟩, .bool false, .string ⟨#[]⟩, .string ⟨#[]⟩, .int .i64 0]) (t := 44) ?hr ?_; (case hd => rfl); (case hg => rfl); (case hr => first | (go_simp; done) | (go_simp; rfl)); intro gb hgb w0_ hbox hb; have HF := Aside0.mk (Fr.start HS.out hgb hbox hb); clear hgb hbox hb; obtain ⟨s0, s1, s2, s3, s4, s5⟩ := HF.out.facts; obtain ⟨a0, a1, a2, a3, a4, a5, b0, b1, b2, b3, b4, b5⟩ := HF.out.rfacts))
    refine start_ (n := 11) (S := fun w' => w'.cell? ⟨g, 0, none⟩ = some (.int .i64 s.pos) ∧ w'.cell? ⟨g, 3, none⟩ = some (.string s.attr)) (ds := [10]) #[false, false, false, false, false, false, false, false, false, false, false] (by kernel_rfl) rfl rfl ⟨s0, s3⟩ (fun hHeld => ?_)
    refine pS 0 12 #[true, false, false, false, false, false, false, false, false, false, false] ?_
    refine pS 1 13 #[true, true, false, false, false, false, false, false, false, false, false] ?_
    refine pS 2 14 #[true, true, true, false, false, false, false, false, false, false, false] ?_
    refine pS 3 15 #[true, true, true, true, false, false, false, false, false, false, false] ?_
    refine pS 5 17 #[true, true, true, true, false, true, false, false, false, false, false] ?_
    refine pS 6 18 #[true, true, true, true, false, true, true, false, false, false, false] ?_
    refine pS 7 19 #[true, true, true, true, false, true, true, true, false, false, false] ?_
    refine take_ (i := 4) (N := some 16) (v := ?_) (a' := ?_) #[true, true, true, true, true, true, true, true, false, false, false] rfl rfl (by kernel_rfl) (fun _ _ _ h => h) (Or.inl ⟨by rfl, ?_⟩) hHeld ?_ ?_
    rotate_left
    · rintro w' ⟨s0, s1⟩
      go_simp
      with_reducible rfl
    rotate_left
    · simp only [Act.put, zA, zZ, zS, i64_w, i32_w]
      rfl
    refine take_ (i := 8) (N := some 20) (v := ?_) (a' := ?_) #[true, true, true, true, true, true, true, true, true, false, false] rfl rfl (by kernel_rfl) (fun _ _ _ h => h) (Or.inl ⟨by rfl, ?_⟩) hHeld ?_ ?_
    rotate_left
    · rintro w' ⟨s0, s1⟩
      go_simp
      with_reducible rfl
    rotate_left
    · simp only [Act.put, zA, zZ, zS, i64_w, i32_w]
      rfl
    refine one_ (i := 9) (N := some 21) #[true, true, true, true, true, true, true, true, true, true, false] rfl rfl (by kernel_rfl) (by decide) (fun K hK => ?_)
    refine goes_ Tryz.func154 (by kernel_rfl) rfl #[.pointer (some ⟨g, 0, none⟩), .int .i64 s.pos, .string s.attr] (by rfl) rfl rfl (by simp only [List.map_toArray, List.map_cons, List.map_nil]; rfl) ?_
    with_reducible refine (attr_calls s s.pos s.attr g _ HF.out.drew.st).mono ?_
    rintro e w3 ⟨rfl, hb3⟩
    refine ⟨_, rfl, ?_⟩
    have HF3 := Aside0.mk (Fr.step HF.out.drew hb3)
    obtain ⟨t0, t1, t2, t3, t4, t5⟩ := HF3.out.facts
    obtain ⟨a0, a1, a2, a3, a4, a5, b0, b1, b2, b3, b4, b5⟩ := HF3.out.rfacts
    refine hK.out _ _ ⟨t0, t3⟩ (fun hHeld => ?_)
    clear hK K
    refine norm_ (a' := ?_) ?_ ?_
    rotate_left
    · show Act.put _ (some 21) _ = _
      simp only [Act.put, zA, zZ, zS, i64_w, i32_w]
      rfl
    refine last_ (i := 10) (N := none) #[true, true, true, true, true, true, true, true, true, true, true] rfl rfl (by kernel_rfl) (by decide) (fun K hK => ?_)
    refine skip_ (w1 := ?_) (by rfl) rfl ?_ ?_
    rotate_left
    · go_simp
      rfl
    refine hK.out _ _ ?_
    clear hK K
    refine done_ (by kernel_rfl) ?_
    go_wp2
    rw [HD.out]
    exact HF3.out.ret rfl rfl rfl
set_option maxHeartbeats 1600000 in
theorem double_calls (s : St) (c : Nat) (g : Nat) (w : World) (hc : c < 256) (h : StAt w g s) : Calls Tryz.prog 93 #[.pointer (some ⟨g, 0, none⟩), .int .u8 c] w (RetS (quotedS s c 34) w) := by
  have hu40 := Tryz.underlying44
  have HS := Aside0.mk h
  clear h
  go_enter Tryz.func93, Tryz.ntmps93
  go_wp2_with (first
    | ((with_reducible refine gate_dst (N := 4) rfl ?_); refine box_event ?hg (N := 4) ?hd (cs := #[.int .i64 0, .string ⟨#[]⟩, .bool false, .string ⟨#[]⟩, .string ⟨#[]⟩, .int .i64 0]) (t := 44) ?hr ?_; (case hd => rfl); (case hg => rfl); (case hr => first | (go_simp; done) | (go_simp; rfl)); intro gb hgb w0_ hbox hb; have HF := Aside0.mk (Fr.start HS.out hgb hbox hb); clear hgb hbox hb; obtain ⟨s0, s1, s2, s3, s4, s5⟩ := HF.out.facts; obtain ⟨a0, a1, a2, a3, a4, a5, b0, b1, b2, b3, b4, b5⟩ := HF.out.rfacts)
    | (go_at_call 158; refine (quoted_calls s c _ g _ (by omega) (by first | exact HF.out.st | exact HF.out.st.alloc _ | exact (HF.out.st.alloc _).alloc _)).mono ?_; rintro e w1 ⟨rfl, hb⟩; have HF := Aside0.mk (Fr.step (by (with_reducible repeat (first | exact HF.out | apply Fr.alloc | apply Fr.drew | apply Fr.drewN))) hb); clear hb; obtain ⟨s0, s1, s2, s3, s4, s5⟩ := HF.out.facts; obtain ⟨a0, a1, a2, a3, a4, a5, b0, b1, b2, b3, b4, b5⟩ := HF.out.rfacts))
  exact HF.out.ret rfl rfl rfl
set_option maxHeartbeats 1600000 in
theorem single_calls (s : St) (c : Nat) (g : Nat) (w : World) (hc : c < 256) (h : StAt w g s) : Calls Tryz.prog 94 #[.pointer (some ⟨g, 0, none⟩), .int .u8 c] w (RetS (quotedS s c 39) w) := by
  have hu40 := Tryz.underlying44
  have HS := Aside0.mk h
  clear h
  go_enter Tryz.func94, Tryz.ntmps94
  go_wp2_with (first
    | ((with_reducible refine gate_dst (N := 4) rfl ?_); refine box_event ?hg (N := 4) ?hd (cs := #[.int .i64 0, .string ⟨#[]⟩, .bool false, .string ⟨#[]⟩, .string ⟨#[]⟩, .int .i64 0]) (t := 44) ?hr ?_; (case hd => rfl); (case hg => rfl); (case hr => first | (go_simp; done) | (go_simp; rfl)); intro gb hgb w0_ hbox hb; have HF := Aside0.mk (Fr.start HS.out hgb hbox hb); clear hgb hbox hb; obtain ⟨s0, s1, s2, s3, s4, s5⟩ := HF.out.facts; obtain ⟨a0, a1, a2, a3, a4, a5, b0, b1, b2, b3, b4, b5⟩ := HF.out.rfacts)
    | (go_at_call 158; refine (quoted_calls s c _ g _ (by omega) (by first | exact HF.out.st | exact HF.out.st.alloc _ | exact (HF.out.st.alloc _).alloc _)).mono ?_; rintro e w1 ⟨rfl, hb⟩; have HF := Aside0.mk (Fr.step (by (with_reducible repeat (first | exact HF.out | apply Fr.alloc | apply Fr.drew | apply Fr.drewN))) hb); clear hb; obtain ⟨s0, s1, s2, s3, s4, s5⟩ := HF.out.facts; obtain ⟨a0, a1, a2, a3, a4, a5, b0, b1, b2, b3, b4, b5⟩ := HF.out.rfacts))
  exact HF.out.ret rfl rfl rfl
set_option maxHeartbeats 1600000 in
theorem bare_calls (s : St) (c : Nat) (g : Nat) (w : World) (hc : c < 256) (h : StAt w g s) : Calls Tryz.prog 95 #[.pointer (some ⟨g, 0, none⟩), .int .u8 c] w (RetS (bareS s c) w) := by
  have hu40 := Tryz.underlying44
  have HS := Aside0.mk h
  clear h
  by_cases q1 : blankN c = true
  · skip
    have HBl := Aside0.mk (fun w => blank_calls c w)
    rw [q1] at HBl
    have HD := Aside0.mk (show bareS s c = inS s 4 by unfold bareS; rw [if_pos q1])
    clear q1
    go_enter Tryz.func95, Tryz.ntmps95
    go_wp2_with (first
      | ((with_reducible refine gate_dst (N := 4) rfl ?_); refine box_event ?hg (N := 4) ?hd (cs := #[.int .i64 0, .string ⟨#[]⟩, .bool false, .string ⟨#[]⟩, .string ⟨#[]⟩, .int .i64 0]) (t := 44) ?hr ?_; (case hd => rfl); (case hg => rfl); (case hr => first | (go_simp; done) | (go_simp; rfl)); intro gb hgb w0_ hbox hb; have HF := Aside0.mk (Fr.start HS.out hgb hbox hb); clear hgb hbox hb; obtain ⟨s0, s1, s2, s3, s4, s5⟩ := HF.out.facts; obtain ⟨a0, a1, a2, a3, a4, a5, b0, b1, b2, b3, b4, b5⟩ := HF.out.rfacts)
      | (go_at_call 156; refine (HBl.out _).mono ?_; rintro e w1 ⟨rfl, rfl⟩)
      | (go_at_call 159; refine (in_calls s _ g _ (by first | exact HF.out.st | exact HF.out.st.alloc _ | exact (HF.out.st.alloc _).alloc _)).mono ?_; rintro e w1 ⟨rfl, hb⟩; have HF := Aside0.mk (Fr.step (by (with_reducible repeat (first | exact HF.out | apply Fr.alloc | apply Fr.drew | apply Fr.drewN))) hb); clear hb; obtain ⟨s0, s1, s2, s3, s4, s5⟩ := HF.out.facts; obtain ⟨a0, a1, a2, a3, a4, a5, b0, b1, b2, b3, b4, b5⟩ := HF.out.rfacts))
    rw [HD.out]
    exact HF.out.ret rfl rfl rfl
  · skip
    have HBl := Aside0.mk (fun w => blank_calls c w)
    rw [Bool.eq_false_iff.2 q1] at HBl
    by_cases q2 : c = 62
    · skip
      have d62 : ((c : Int) == 62) = true := by rw [beq_iff_eq]; omega
      have HD := Aside0.mk (show bareS s c = closesS s by unfold bareS; rw [if_neg q1, if_pos q2])
      clear q1 q2
      go_enter Tryz.func95, Tryz.ntmps95
      go_wp2_with (first
        | ((with_reducible refine gate_dst (N := 4) rfl ?_); refine box_event ?hg (N := 4) ?hd (cs := #[.int .i64 0, .string ⟨#[]⟩, .bool false, .string ⟨#[]⟩, .string ⟨#[]⟩, .int .i64 0]) (t := 44) ?hr ?_; (case hd => rfl); (case hg => rfl); (case hr => first | (go_simp; done) | (go_simp; rfl)); intro gb hgb w0_ hbox hb; have HF := Aside0.mk (Fr.start HS.out hgb hbox hb); clear hgb hbox hb; obtain ⟨s0, s1, s2, s3, s4, s5⟩ := HF.out.facts; obtain ⟨a0, a1, a2, a3, a4, a5, b0, b1, b2, b3, b4, b5⟩ := HF.out.rfacts)
        | (go_at_call 156; refine (HBl.out _).mono ?_; rintro e w1 ⟨rfl, rfl⟩)
        | (go_at_call 157; refine (closes_calls s g _ (by first | exact HF.out.st | exact HF.out.st.alloc _ | exact (HF.out.st.alloc _).alloc _)).mono ?_; rintro e w1 ⟨rfl, hb⟩; have HF := Aside0.mk (Fr.step (by (with_reducible repeat (first | exact HF.out | apply Fr.alloc | apply Fr.drew | apply Fr.drewN))) hb); clear hb; obtain ⟨s0, s1, s2, s3, s4, s5⟩ := HF.out.facts; obtain ⟨a0, a1, a2, a3, a4, a5, b0, b1, b2, b3, b4, b5⟩ := HF.out.rfacts))
      rw [HD.out]
      exact HF.out.ret rfl rfl rfl
    · skip
      have d62 : ((c : Int) == 62) = false := by rw [beq_eq_false_iff_ne]; omega
      have HD := Aside0.mk (show bareS s c = attrS s 10 s.attr by unfold bareS; rw [if_neg q1, if_neg q2])
      clear q1 q2
      go_enter Tryz.func95, Tryz.ntmps95
      go_wp2_with (first
        | ((with_reducible refine gate_dst (N := 4) rfl ?_); refine box_event ?hg (N := 4) ?hd (cs := #[.int .i64 0, .string ⟨#[]⟩, .bool false, .string ⟨#[]⟩, .string ⟨#[]⟩, .int .i64 0]) (t := 44) ?hr ?_; (case hd => rfl); (case hg => rfl); (case hr => first | (go_simp; done) | (go_simp; rfl)); intro gb hgb w0_ hbox hb; have HF := Aside0.mk (Fr.start HS.out hgb hbox hb); clear hgb hbox hb; obtain ⟨s0, s1, s2, s3, s4, s5⟩ := HF.out.facts; obtain ⟨a0, a1, a2, a3, a4, a5, b0, b1, b2, b3, b4, b5⟩ := HF.out.rfacts)
        | (go_at_call 156; refine (HBl.out _).mono ?_; rintro e w1 ⟨rfl, rfl⟩)
        | (go_at_call 154; refine (attr_calls s _ _ g _ (by first | exact HF.out.st | exact HF.out.st.alloc _ | exact (HF.out.st.alloc _).alloc _)).mono ?_; rintro e w1 ⟨rfl, hb⟩; have HF := Aside0.mk (Fr.step (by (with_reducible repeat (first | exact HF.out | apply Fr.alloc | apply Fr.drew | apply Fr.drewN))) hb); clear hb; obtain ⟨s0, s1, s2, s3, s4, s5⟩ := HF.out.facts; obtain ⟨a0, a1, a2, a3, a4, a5, b0, b1, b2, b3, b4, b5⟩ := HF.out.rfacts))
      rw [HD.out]
      exact HF.out.ret rfl rfl rfl
end Go.Proofs.YtfmcdlbbbmeolaaGreatDoor.Tk
end
