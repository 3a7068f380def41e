/- tok's functions of a state and a byte: walked. (Laid by gen_tk2.py, a program of this session.) tok's reader: what it does, plain; what memory holds of it. tok's reader's kept: walked (the closure, slices.ContainsFunc at it). tok's reader's kept: walked. tok's reader's text, told: walked. -/
import Derived.Test.YtfmcdlbbbmeolaaGreatDoorP0
import Derived.Test.YtfmcdlbbbmeolaaGreatDoorP2
import Derived.Outline
section
namespace Go.Proofs.YtfmcdlbbbmeolaaGreatDoor.Tk
open Go.RowKit Go.Proofs.YtfmcdlbbbmeolaaGreatDoorW.PrintWords Go.Proofs.YtfmcdlbbbmeolaaGreatDoorW.PrintLast Go.Proofs.YtfmcdlbbbmeolaaGreatDoorW.PrintMore
open Go.Proofs.YtfmcdlbbbmeolaaGreatDoor.Refs (lowN lowByte_calls)
attribute [local go_sem ↓] Go.wp_at_zero Go.wp_at_succ
set_option linter.unusedVariables false
set_option linter.unusedSimpArgs false
set_option maxRecDepth 100000
def attrS (s : St) (x : Int) (nm : ByteArray) : St := ⟨x, s.name, s.fin, nm, ⟨#[]⟩, 0⟩
def heldS (s : St) (x : Int) : St := ⟨x, ⟨#[]⟩, false, ⟨#[]⟩, s.held, 0⟩
def closesS (s : St) : St := if s.fin = true then atS 0 else if kindOf s.name = 0 then atS 0 else if kindOf s.name = 1 then atS 0 else ⟨19, ⟨#[]⟩, false, ⟨#[]⟩, s.name, 0⟩
def dataS (c : Nat) : St := if c = 60 then atS 1 else atS 0
def tagOpenS (c : Nat) : St := if letN c = true then ⟨3, moreS ⟨#[]⟩ c, false, ⟨#[]⟩, ⟨#[]⟩, 0⟩ else if c = 47 then atS 2 else if c = 33 then atS 13 else dataS c
def endOpenS (c : Nat) : St := if letN c = true then ⟨3, moreS ⟨#[]⟩ c, true, ⟨#[]⟩, ⟨#[]⟩, 0⟩ else dataS c
def betweenS (s : St) (c : Nat) (x : Int) : Option St := if blankN c = true then some (inS s x) else if c = 47 then some (inS s 12) else if c = 62 then some (closesS s) else none
def tagNameS (s : St) (c : Nat) : St := match betweenS s c 4 with
  | some o => o
  | none => ⟨3, moreS s.name c, s.fin, ⟨#[]⟩, ⟨#[]⟩, 0⟩
def beginsS (s : St) (c : Nat) : St := match betweenS s c 4 with
  | some o => o
  | none => attrS s 5 (moreS ⟨#[]⟩ c)
def namesS (s : St) (c : Nat) (nm : ByteArray) : St := if blankN c = true then attrS s 6 s.attr else if c = 61 then attrS s 7 s.attr else match betweenS s c 0 with
  | some o => o
  | none => attrS s 5 (moreS nm c)
def beforeValueS (s : St) (c : Nat) : St := if blankN c = true then attrS s 7 s.attr else if c = 34 then attrS s 8 s.attr else if c = 39 then attrS s 9 s.attr else if c = 62 then closesS s else attrS s 10 s.attr
def quotedS (s : St) (c q : Nat) : St := if c = q then inS s 11 else attrS s s.pos s.attr
def bareS (s : St) (c : Nat) : St := if blankN c = true then inS s 4 else if c = 62 then closesS s else attrS s 10 s.attr
def bangsS (c : Nat) (x : Int) : St := if c = 45 then atS x else if c = 62 then atS 0 else atS 18
def eitherS (b : Bool) (x y : Int) : St := if b = true then atS x else atS y
def commentS (c : Nat) : St := if c = 45 then eitherS true 16 15 else eitherS false 16 15
def commentDashS (c : Nat) : St := if c = 45 then eitherS true 17 15 else eitherS false 17 15
def commentEndS (c : Nat) : St := if c = 62 then atS 0 else if c = 45 then eitherS true 17 15 else eitherS false 17 15
def bogusS (c : Nat) : St := if c = 62 then eitherS true 0 18 else eitherS false 0 18
def holdsS (s : St) (c : Nat) : St := if c = 60 then heldS s 20 else heldS s 19
def heldLtS (s : St) (c : Nat) : St := if c = 47 then heldS s 21 else holdsS s c
def byteAt (s : ByteArray) (i : Int) : Nat := (s.data.toList.getD i.toNat 0).toNat
def readsS (s : St) (c : Nat) (r : Int) : St := if 0 ≤ r ∧ r < s.held.size ∧ lowN c = lowN (byteAt s.held r) then ⟨22, ⟨#[]⟩, false, ⟨#[]⟩, s.held, r + 1⟩ else holdsS s c
def heldNameS (s : St) (c : Nat) : St := if s.read < s.held.size then readsS s c s.read else match betweenS ⟨0, s.held, true, ⟨#[]⟩, ⟨#[]⟩, 0⟩ c 4 with
  | some o => o
  | none => holdsS s c
set_option maxHeartbeats 1600000 in
theorem attr_calls (s : St) (x : Int) (nm : ByteArray) (g : Nat) (w : World) (h : StAt w g s) : Calls Tryz.prog 154 #[.pointer (some ⟨g, 0, none⟩), .int .i64 x, .string nm] w (RetS (attrS s x nm) w) := by
  have hu40 := Tryz.underlying44
  have c1 : w.cell? ⟨g, 1, none⟩ = some (.string s.name) := (blk_cell h 1).trans rfl
  have c2 : w.cell? ⟨g, 2, none⟩ = some (.bool s.fin) := (blk_cell h 2).trans rfl
  have := World.new_ne w ⟨g, 1, none⟩ c1
  go_enter Tryz.func154, Tryz.ntmps154
  go_wp2
  go_region_held3 (fun w' => w'.cell? ⟨g, 1, none⟩ = some (.string s.name) ∧ w'.cell? ⟨g, 2, none⟩ = some (.bool s.fin)) (go_keep) (fail)
  go_wp2
  exact ret_cell rfl rfl rfl (heap_alloc_new w _) (pw_below_drewN ((Below.refl _ _).alloc (Nat.le_refl _) _) 1)
set_option maxHeartbeats 1600000 in
theorem held_calls (s : St) (x : Int) (g : Nat) (w : World) (h : StAt w g s) : Calls Tryz.prog 162 #[.pointer (some ⟨g, 0, none⟩), .int .i64 x] w (RetS (heldS s x) w) := by
  have hu40 := Tryz.underlying44
  have HS := Aside0.mk h
  clear h
  go_enter Tryz.func162, Tryz.ntmps162
  go_wp2_with (first
    | ((with_reducible refine gate_dst (N := 4) rfl ?_); refine box_event ?hg (N := 4) ?hd (cs := #[.int .i64 0, .string ⟨#[]⟩, .bool false, .string ⟨#[]⟩, .string ⟨#[]⟩, .int .i64 0]) (t := 44) ?hr ?_; (case hd => rfl); (case hg => rfl); (case hr => first | (go_simp; done) | (go_simp; rfl)); intro gb hgb w0_ hbox hb; have HF := Aside0.mk (Fr.start HS.out hgb hbox hb); clear hgb hbox hb; obtain ⟨s0, s1, s2, s3, s4, s5⟩ := HF.out.facts; obtain ⟨a0, a1, a2, a3, a4, a5, b0, b1, b2, b3, b4, b5⟩ := HF.out.rfacts))
  exact HF.out.ret rfl rfl rfl
set_option maxHeartbeats 1600000 in
theorem closes_calls (s : St) (g : Nat) (w : World) (h : StAt w g s) : Calls Tryz.prog 157 #[.pointer (some ⟨g, 0, none⟩)] w (RetS (closesS s) w) := by
  have hu40 := Tryz.underlying44
  have HS := Aside0.mk h
  clear h
  have HKi := Aside0.mk (fun w => kind_calls s.name w)
  by_cases q1 : s.fin = true
  · skip
    have f2 : s.fin = true := q1
    have HD := Aside0.mk (show closesS s = atS 0 by unfold closesS; rw [if_pos q1])
    clear q1
    go_enter Tryz.func157, Tryz.ntmps157
    go_wp2_with (first
      | ((with_reducible refine gate_dst (N := 2) rfl ?_); refine box_event ?hg (N := 2) ?hd (cs := #[.int .i64 0, .string ⟨#[]⟩, .bool false, .string ⟨#[]⟩, .string ⟨#[]⟩, .int .i64 0]) (t := 44) ?hr ?_; (case hd => rfl); (case hg => rfl); (case hr => first | (go_simp; done) | (go_simp; rfl)); intro gb hgb w0_ hbox hb; have HF := Aside0.mk (Fr.start HS.out hgb hbox hb); clear hgb hbox hb; obtain ⟨s0, s1, s2, s3, s4, s5⟩ := HF.out.facts; obtain ⟨a0, a1, a2, a3, a4, a5, b0, b1, b2, b3, b4, b5⟩ := HF.out.rfacts)
      | (go_at_call 167; refine (HKi.out _).mono ?_; rintro e w1 ⟨rfl, ⟨⟨m, rfl⟩⟩⟩; have HF := Aside0.mk (HF.out.drewN m); obtain ⟨s0, s1, s2, s3, s4, s5⟩ := HF.out.facts; obtain ⟨a0, a1, a2, a3, a4, a5, b0, b1, b2, b3, b4, b5⟩ := HF.out.rfacts)
      | (go_at_call 151; refine (at_calls _ _).mono ?_; rintro e w1 ⟨rfl, hb⟩; have HF := Aside0.mk (Fr.step (by (with_reducible repeat (first | exact HF.out | apply Fr.alloc | apply Fr.drew | apply Fr.drewN))) hb); clear hb; obtain ⟨s0, s1, s2, s3, s4, s5⟩ := HF.out.facts; obtain ⟨a0, a1, a2, a3, a4, a5, b0, b1, b2, b3, b4, b5⟩ := HF.out.rfacts))
    rw [HD.out]
    exact HF.out.ret rfl rfl rfl
  · skip
    have f2 : s.fin = false := by simpa using q1
    by_cases q2 : kindOf s.name = 0
    · skip
      have k0 : kindOf s.name = 0 := q2
      have HD := Aside0.mk (show closesS s = atS 0 by unfold closesS; rw [if_neg q1, if_pos q2])
      clear q1 q2
      go_enter Tryz.func157, Tryz.ntmps157
      go_wp2_with (first
        | ((with_reducible refine gate_dst (N := 2) rfl ?_); refine box_event ?hg (N := 2) ?hd (cs := #[.int .i64 0, .string ⟨#[]⟩, .bool false, .string ⟨#[]⟩, .string ⟨#[]⟩, .int .i64 0]) (t := 44) ?hr ?_; (case hd => rfl); (case hg => rfl); (case hr => first | (go_simp; done) | (go_simp; rfl)); intro gb hgb w0_ hbox hb; have HF := Aside0.mk (Fr.start HS.out hgb hbox hb); clear hgb hbox hb; obtain ⟨s0, s1, s2, s3, s4, s5⟩ := HF.out.facts; obtain ⟨a0, a1, a2, a3, a4, a5, b0, b1, b2, b3, b4, b5⟩ := HF.out.rfacts)
        | (go_at_call 167; refine (HKi.out _).mono ?_; rintro e w1 ⟨rfl, ⟨⟨m, rfl⟩⟩⟩; have HF := Aside0.mk (HF.out.drewN m); obtain ⟨s0, s1, s2, s3, s4, s5⟩ := HF.out.facts; obtain ⟨a0, a1, a2, a3, a4, a5, b0, b1, b2, b3, b4, b5⟩ := HF.out.rfacts)
        | (go_at_call 151; refine (at_calls _ _).mono ?_; rintro e w1 ⟨rfl, hb⟩; have HF := Aside0.mk (Fr.step (by (with_reducible repeat (first | exact HF.out | apply Fr.alloc | apply Fr.drew | apply Fr.drewN))) hb); clear hb; obtain ⟨s0, s1, s2, s3, s4, s5⟩ := HF.out.facts; obtain ⟨a0, a1, a2, a3, a4, a5, b0, b1, b2, b3, b4, b5⟩ := HF.out.rfacts))
      rw [HD.out]
      exact HF.out.ret rfl rfl rfl
    · skip
      have k0 : (kindOf s.name == 0) = false := by simpa using q2
      by_cases q3 : kindOf s.name = 1
      · skip
        have k1 : kindOf s.name = 1 := q3
        have HD := Aside0.mk (show closesS s = atS 0 by unfold closesS; rw [if_neg q1, if_neg q2, if_pos q3])
        clear q1 q2 q3
        go_enter Tryz.func157, Tryz.ntmps157
        go_wp2_with (first
          | ((with_reducible refine gate_dst (N := 2) rfl ?_); refine box_event ?hg (N := 2) ?hd (cs := #[.int .i64 0, .string ⟨#[]⟩, .bool false, .string ⟨#[]⟩, .string ⟨#[]⟩, .int .i64 0]) (t := 44) ?hr ?_; (case hd => rfl); (case hg => rfl); (case hr => first | (go_simp; done) | (go_simp; rfl)); intro gb hgb w0_ hbox hb; have HF := Aside0.mk (Fr.start HS.out hgb hbox hb); clear hgb hbox hb; obtain ⟨s0, s1, s2, s3, s4, s5⟩ := HF.out.facts; obtain ⟨a0, a1, a2, a3, a4, a5, b0, b1, b2, b3, b4, b5⟩ := HF.out.rfacts)
          | (go_at_call 167; refine (HKi.out _).mono ?_; rintro e w1 ⟨rfl, ⟨⟨m, rfl⟩⟩⟩; have HF := Aside0.mk (HF.out.drewN m); obtain ⟨s0, s1, s2, s3, s4, s5⟩ := HF.out.facts; obtain ⟨a0, a1, a2, a3, a4, a5, b0, b1, b2, b3, b4, b5⟩ := HF.out.rfacts)
          | (go_at_call 151; refine (at_calls _ _).mono ?_; rintro e w1 ⟨rfl, hb⟩; have HF := Aside0.mk (Fr.step (by (with_reducible repeat (first | exact HF.out | apply Fr.alloc | apply Fr.drew | apply Fr.drewN))) hb); clear hb; obtain ⟨s0, s1, s2, s3, s4, s5⟩ := HF.out.facts; obtain ⟨a0, a1, a2, a3, a4, a5, b0, b1, b2, b3, b4, b5⟩ := HF.out.rfacts))
        rw [HD.out]
        exact HF.out.ret rfl rfl rfl
      · skip
        have k1 : (kindOf s.name == 1) = false := by simpa using q3
        have HD := Aside0.mk (show closesS s = ⟨19, ⟨#[]⟩, false, ⟨#[]⟩, s.name, 0⟩ by unfold closesS; rw [if_neg q1, if_neg q2, if_neg q3])
        clear q1 q2 q3
        go_enter Tryz.func157, Tryz.ntmps157
        go_wp2_with (first
          | ((with_reducible refine gate_dst (N := 2) rfl ?_); refine box_event ?hg (N := 2) ?hd (cs := #[.int .i64 0, .string ⟨#[]⟩, .bool false, .string ⟨#[]⟩, .string ⟨#[]⟩, .int .i64 0]) (t := 44) ?hr ?_; (case hd => rfl); (case hg => rfl); (case hr => first | (go_simp; done) | (go_simp; rfl)); intro gb hgb w0_ hbox hb; have HF := Aside0.mk (Fr.start HS.out hgb hbox hb); clear hgb hbox hb; obtain ⟨s0, s1, s2, s3, s4, s5⟩ := HF.out.facts; obtain ⟨a0, a1, a2, a3, a4, a5, b0, b1, b2, b3, b4, b5⟩ := HF.out.rfacts)
          | (go_at_call 167; refine (HKi.out _).mono ?_; rintro e w1 ⟨rfl, ⟨⟨m, rfl⟩⟩⟩; have HF := Aside0.mk (HF.out.drewN m); obtain ⟨s0, s1, s2, s3, s4, s5⟩ := HF.out.facts; obtain ⟨a0, a1, a2, a3, a4, a5, b0, b1, b2, b3, b4, b5⟩ := HF.out.rfacts))
        rw [HD.out]
        exact HF.out.ret rfl rfl rfl
set_option maxHeartbeats 1600000 in
theorem data_calls (s : St) (c : Nat) (g : Nat) (w : World) (hc : c < 256) (h : StAt w g s) : Calls Tryz.prog 85 #[.pointer (some ⟨g, 0, none⟩), .int .u8 c] w (RetS (dataS c) w) := by
  have hu40 := Tryz.underlying44
  have HS := Aside0.mk h
  clear h
  by_cases q1 : c = 60
  · skip
    have d60 : ((c : Int) == 60) = true := by rw [beq_iff_eq]; omega
    have HD := Aside0.mk (show dataS c = atS 1 by unfold dataS; rw [if_pos q1])
    clear q1
    go_enter Tryz.func85, Tryz.ntmps85
    go_wp2_with (first
      | ((with_reducible refine gate_dst (N := 4) rfl ?_); refine box_event ?hg (N := 4) ?hd (cs := #[.int .i64 0, .string ⟨#[]⟩, .bool false, .string ⟨#[]⟩, .string ⟨#[]⟩, .int .i64 0]) (t := 44) ?hr ?_; (case hd => rfl); (case hg => rfl); (case hr => first | (go_simp; done) | (go_simp; rfl)); intro gb hgb w0_ hbox hb; have HF := Aside0.mk (Fr.start HS.out hgb hbox hb); clear hgb hbox hb; obtain ⟨s0, s1, s2, s3, s4, s5⟩ := HF.out.facts; obtain ⟨a0, a1, a2, a3, a4, a5, b0, b1, b2, b3, b4, b5⟩ := HF.out.rfacts)
      | (go_at_call 151; refine (at_calls _ _).mono ?_; rintro e w1 ⟨rfl, hb⟩; have HF := Aside0.mk (Fr.step (by (with_reducible repeat (first | exact HF.out | apply Fr.alloc | apply Fr.drew | apply Fr.drewN))) hb); clear hb; obtain ⟨s0, s1, s2, s3, s4, s5⟩ := HF.out.facts; obtain ⟨a0, a1, a2, a3, a4, a5, b0, b1, b2, b3, b4, b5⟩ := HF.out.rfacts))
    rw [HD.out]
    exact HF.out.ret rfl rfl rfl
  · skip
    have d60 : ((c : Int) == 60) = false := by rw [beq_eq_false_iff_ne]; omega
    have HD := Aside0.mk (show dataS c = atS 0 by unfold dataS; rw [if_neg q1])
    clear q1
    go_enter Tryz.func85, Tryz.ntmps85
    go_wp2_with (first
      | ((with_reducible refine gate_dst (N := 4) rfl ?_); refine box_event ?hg (N := 4) ?hd (cs := #[.int .i64 0, .string ⟨#[]⟩, .bool false, .string ⟨#[]⟩, .string ⟨#[]⟩, .int .i64 0]) (t := 44) ?hr ?_; (case hd => rfl); (case hg => rfl); (case hr => first | (go_simp; done) | (go_simp; rfl)); intro gb hgb w0_ hbox hb; have HF := Aside0.mk (Fr.start HS.out hgb hbox hb); clear hgb hbox hb; obtain ⟨s0, s1, s2, s3, s4, s5⟩ := HF.out.facts; obtain ⟨a0, a1, a2, a3, a4, a5, b0, b1, b2, b3, b4, b5⟩ := HF.out.rfacts)
      | (go_at_call 151; refine (at_calls _ _).mono ?_; rintro e w1 ⟨rfl, hb⟩; have HF := Aside0.mk (Fr.step (by (with_reducible repeat (first | exact HF.out | apply Fr.alloc | apply Fr.drew | apply Fr.drewN))) hb); clear hb; obtain ⟨s0, s1, s2, s3, s4, s5⟩ := HF.out.facts; obtain ⟨a0, a1, a2, a3, a4, a5, b0, b1, b2, b3, b4, b5⟩ := HF.out.rfacts))
    rw [HD.out]
    exact HF.out.ret rfl rfl rfl
set_option maxHeartbeats 1600000 in
theorem tagOpen_calls (s : St) (c : Nat) (g : Nat) (w : World) (hc : c < 256) (h : StAt w g s) : Calls Tryz.prog 86 #[.pointer (some ⟨g, 0, none⟩), .int .u8 c] w (RetS (tagOpenS c) w) := by
  have hu40 := Tryz.underlying44
  have HS := Aside0.mk h
  clear h
  by_cases q1 : letN c = true
  · skip
    have HLe := Aside0.mk (fun w => letter_calls c w)
    rw [q1] at HLe
    have HD := Aside0.mk (show tagOpenS c = ⟨3, moreS ⟨#[]⟩ c, false, ⟨#[]⟩, ⟨#[]⟩, 0⟩ by unfold tagOpenS; rw [if_pos q1])
    clear q1
    go_enter Tryz.func86, Tryz.ntmps86
    go_wp2_with (first
      | ((with_reducible refine gate_dst (N := 4) rfl ?_); refine box_event ?hg (N := 4) ?hd (cs := #[.int .i64 0, .string ⟨#[]⟩, .bool false, .string ⟨#[]⟩, .string ⟨#[]⟩, .int .i64 0]) (t := 44) ?hr ?_; (case hd => rfl); (case hg => rfl); (case hr => first | (go_simp; done) | (go_simp; rfl)); intro gb hgb w0_ hbox hb; have HF := Aside0.mk (Fr.start HS.out hgb hbox hb); clear hgb hbox hb; obtain ⟨s0, s1, s2, s3, s4, s5⟩ := HF.out.facts; obtain ⟨a0, a1, a2, a3, a4, a5, b0, b1, b2, b3, b4, b5⟩ := HF.out.rfacts)
      | (go_at_call 132; refine (HLe.out _).mono ?_; rintro e w1 ⟨rfl, rfl⟩)
      | (go_at_call 152; refine (more_calls _ c _ (by omega)).mono ?_; rintro e w1 ⟨rfl, hb⟩; have HF := Aside0.mk (Fr.step (by (with_reducible repeat (first | exact HF.out | apply Fr.alloc | apply Fr.drew | apply Fr.drewN))) hb); clear hb; obtain ⟨s0, s1, s2, s3, s4, s5⟩ := HF.out.facts; obtain ⟨a0, a1, a2, a3, a4, a5, b0, b1, b2, b3, b4, b5⟩ := HF.out.rfacts))
    rw [HD.out]
    exact HF.out.ret rfl rfl rfl
  · skip
    have HLe := Aside0.mk (fun w => letter_calls c w)
    rw [Bool.eq_false_iff.2 q1] at HLe
    by_cases q2 : c = 47
    · skip
      have d47 : ((c : Int) == 47) = true := by rw [beq_iff_eq]; omega
      have HD := Aside0.mk (show tagOpenS c = atS 2 by unfold tagOpenS; rw [if_neg q1, if_pos q2])
      clear q1 q2
      go_enter Tryz.func86, Tryz.ntmps86
      go_wp2_with (first
        | ((with_reducible refine gate_dst (N := 4) rfl ?_); refine box_event ?hg (N := 4) ?hd (cs := #[.int .i64 0, .string ⟨#[]⟩, .bool false, .string ⟨#[]⟩, .string ⟨#[]⟩, .int .i64 0]) (t := 44) ?hr ?_; (case hd => rfl); (case hg => rfl); (case hr => first | (go_simp; done) | (go_simp; rfl)); intro gb hgb w0_ hbox hb; have HF := Aside0.mk (Fr.start HS.out hgb hbox hb); clear hgb hbox hb; obtain ⟨s0, s1, s2, s3, s4, s5⟩ := HF.out.facts; obtain ⟨a0, a1, a2, a3, a4, a5, b0, b1, b2, b3, b4, b5⟩ := HF.out.rfacts)
        | (go_at_call 132; refine (HLe.out _).mono ?_; rintro e w1 ⟨rfl, rfl⟩)
        | (go_at_call 151; refine (at_calls _ _).mono ?_; rintro e w1 ⟨rfl, hb⟩; have HF := Aside0.mk (Fr.step (by (with_reducible repeat (first | exact HF.out | apply Fr.alloc | apply Fr.drew | apply Fr.drewN))) hb); clear hb; obtain ⟨s0, s1, s2, s3, s4, s5⟩ := HF.out.facts; obtain ⟨a0, a1, a2, a3, a4, a5, b0, b1, b2, b3, b4, b5⟩ := HF.out.rfacts))
      rw [HD.out]
      exact HF.out.ret rfl rfl rfl
    · skip
      have d47 : ((c : Int) == 47) = false := by rw [beq_eq_false_iff_ne]; omega
      by_cases q3 : c = 33
      · skip
        have d33 : ((c : Int) == 33) = true := by rw [beq_iff_eq]; omega
        have HD := Aside0.mk (show tagOpenS c = atS 13 by unfold tagOpenS; rw [if_neg q1, if_neg q2, if_pos q3])
        clear q1 q2 q3
        go_enter Tryz.func86, Tryz.ntmps86
        go_wp2_with (first
          | ((with_reducible refine gate_dst (N := 4) rfl ?_); refine box_event ?hg (N := 4) ?hd (cs := #[.int .i64 0, .string ⟨#[]⟩, .bool false, .string ⟨#[]⟩, .string ⟨#[]⟩, .int .i64 0]) (t := 44) ?hr ?_; (case hd => rfl); (case hg => rfl); (case hr => first | (go_simp; done) | (go_simp; rfl)); intro gb hgb w0_ hbox hb; have HF := Aside0.mk (Fr.start HS.out hgb hbox hb); clear hgb hbox hb; obtain ⟨s0, s1, s2, s3, s4, s5⟩ := HF.out.facts; obtain ⟨a0, a1, a2, a3, a4, a5, b0, b1, b2, b3, b4, b5⟩ := HF.out.rfacts)
          | (go_at_call 132; refine (HLe.out _).mono ?_; rintro e w1 ⟨rfl, rfl⟩)
          | (go_at_call 151; refine (at_calls _ _).mono ?_; rintro e w1 ⟨rfl, hb⟩; have HF := Aside0.mk (Fr.step (by (with_reducible repeat (first | exact HF.out | apply Fr.alloc | apply Fr.drew | apply Fr.drewN))) hb); clear hb; obtain ⟨s0, s1, s2, s3, s4, s5⟩ := HF.out.facts; obtain ⟨a0, a1, a2, a3, a4, a5, b0, b1, b2, b3, b4, b5⟩ := HF.out.rfacts))
        rw [HD.out]
        exact HF.out.ret rfl rfl rfl
      · skip
        have d33 : ((c : Int) == 33) = false := by rw [beq_eq_false_iff_ne]; omega
        have HD := Aside0.mk (show tagOpenS c = dataS c by unfold tagOpenS; rw [if_neg q1, if_neg q2, if_neg q3])
        clear q1 q2 q3
        go_enter Tryz.func86, Tryz.ntmps86
        go_wp2_with (first
          | ((with_reducible refine gate_dst (N := 4) rfl ?_); refine box_event ?hg (N := 4) ?hd (cs := #[.int .i64 0, .string ⟨#[]⟩, .bool false, .string ⟨#[]⟩, .string ⟨#[]⟩, .int .i64 0]) (t := 44) ?hr ?_; (case hd => rfl); (case hg => rfl); (case hr => first | (go_simp; done) | (go_simp; rfl)); intro gb hgb w0_ hbox hb; have HF := Aside0.mk (Fr.start HS.out hgb hbox hb); clear hgb hbox hb; obtain ⟨s0, s1, s2, s3, s4, s5⟩ := HF.out.facts; obtain ⟨a0, a1, a2, a3, a4, a5, b0, b1, b2, b3, b4, b5⟩ := HF.out.rfacts)
          | (go_at_call 132; refine (HLe.out _).mono ?_; rintro e w1 ⟨rfl, rfl⟩)
          | (go_at_call 85; refine (data_calls s c g _ (by omega) (by first | exact HF.out.st | exact HF.out.st.alloc _ | exact (HF.out.st.alloc _).alloc _)).mono ?_; rintro e w1 ⟨rfl, hb⟩; have HF := Aside0.mk (Fr.step (by (with_reducible repeat (first | exact HF.out | apply Fr.alloc | apply Fr.drew | apply Fr.drewN))) hb); clear hb; obtain ⟨s0, s1, s2, s3, s4, s5⟩ := HF.out.facts; obtain ⟨a0, a1, a2, a3, a4, a5, b0, b1, b2, b3, b4, b5⟩ := HF.out.rfacts))
        rw [HD.out]
        exact HF.out.ret rfl rfl rfl
set_option maxHeartbeats 1600000 in
theorem endOpen_calls (s : St) (c : Nat) (g : Nat) (w : World) (hc : c < 256) (h : StAt w g s) : Calls Tryz.prog 87 #[.pointer (some ⟨g, 0, none⟩), .int .u8 c] w (RetS (endOpenS c) w) := by
  have hu40 := Tryz.underlying44
  have HS := Aside0.mk h
  clear h
  by_cases q1 : letN c = true
  · skip
    have HLe := Aside0.mk (fun w => letter_calls c w)
    rw [q1] at HLe
    have HD := Aside0.mk (show endOpenS c = ⟨3, moreS ⟨#[]⟩ c, true, ⟨#[]⟩, ⟨#[]⟩, 0⟩ by unfold endOpenS; rw [if_pos q1])
    clear q1
    go_enter Tryz.func87, Tryz.ntmps87
    go_wp2_with (first
      | ((with_reducible refine gate_dst (N := 4) rfl ?_); refine box_event ?hg (N := 4) ?hd (cs := #[.int .i64 0, .string ⟨#[]⟩, .bool false, .string ⟨#[]⟩, .string ⟨#[]⟩, .int .i64 0]) (t := 44) ?hr ?_; (case hd => rfl); (case hg => rfl); (case hr => first | (go_simp; done) | (go_simp; rfl)); intro gb hgb w0_ hbox hb; have HF := Aside0.mk (Fr.start HS.out hgb hbox hb); clear hgb hbox hb; obtain ⟨s0, s1, s2, s3, s4, s5⟩ := HF.out.facts; obtain ⟨a0, a1, a2, a3, a4, a5, b0, b1, b2, b3, b4, b5⟩ := HF.out.rfacts)
      | (go_at_call 132; refine (HLe.out _).mono ?_; rintro e w1 ⟨rfl, rfl⟩)
      | (go_at_call 152; refine (more_calls _ c _ (by omega)).mono ?_; rintro e w1 ⟨rfl, hb⟩; have HF := Aside0.mk (Fr.step (by (with_reducible repeat (first | exact HF.out | apply Fr.alloc | apply Fr.drew | apply Fr.drewN))) hb); clear hb; obtain ⟨s0, s1, s2, s3, s4, s5⟩ := HF.out.facts; obtain ⟨a0, a1, a2, a3, a4, a5, b0, b1, b2, b3, b4, b5⟩ := HF.out.rfacts))
    rw [HD.out]
    exact HF.out.ret rfl rfl rfl
  · skip
    have HLe := Aside0.mk (fun w => letter_calls c w)
    rw [Bool.eq_false_iff.2 q1] at HLe
    have HD := Aside0.mk (show endOpenS c = dataS c by unfold endOpenS; rw [if_neg q1])
    clear q1
    go_enter Tryz.func87, Tryz.ntmps87
    go_wp2_with (first
      | ((with_reducible refine gate_dst (N := 4) rfl ?_); refine box_event ?hg (N := 4) ?hd (cs := #[.int .i64 0, .string ⟨#[]⟩, .bool false, .string ⟨#[]⟩, .string ⟨#[]⟩, .int .i64 0]) (t := 44) ?hr ?_; (case hd => rfl); (case hg => rfl); (case hr => first | (go_simp; done) | (go_simp; rfl)); intro gb hgb w0_ hbox hb; have HF := Aside0.mk (Fr.start HS.out hgb hbox hb); clear hgb hbox hb; obtain ⟨s0, s1, s2, s3, s4, s5⟩ := HF.out.facts; obtain ⟨a0, a1, a2, a3, a4, a5, b0, b1, b2, b3, b4, b5⟩ := HF.out.rfacts)
      | (go_at_call 132; refine (HLe.out _).mono ?_; rintro e w1 ⟨rfl, rfl⟩)
      | (go_at_call 85; refine (data_calls s c g _ (by omega) (by first | exact HF.out.st | exact HF.out.st.alloc _ | exact (HF.out.st.alloc _).alloc _)).mono ?_; rintro e w1 ⟨rfl, hb⟩; have HF := Aside0.mk (Fr.step (by (with_reducible repeat (first | exact HF.out | apply Fr.alloc | apply Fr.drew | apply Fr.drewN))) hb); clear hb; obtain ⟨s0, s1, s2, s3, s4, s5⟩ := HF.out.facts; obtain ⟨a0, a1, a2, a3, a4, a5, b0, b1, b2, b3, b4, b5⟩ := HF.out.rfacts))
    rw [HD.out]
    exact HF.out.ret rfl rfl rfl
def RetB : Option St → World → Ending → World → Prop
  | some s, w, e, w' => e = .returned (.tuple #[.agg #[.int .i64 s.pos, .string s.name, .bool s.fin, .string s.attr, .string s.held, .int .i64 s.read], .bool true]) ∧ Below w.heap.size w w'
  | none, w, e, w' => e = .returned (.tuple #[.agg #[.int .i64 0, .string ⟨#[]⟩, .bool false, .string ⟨#[]⟩, .string ⟨#[]⟩, .int .i64 0], .bool false]) ∧ Below w.heap.size w w'
theorem Fr.retB {w W : World} {gb g : Nat} {s : St} (h : Fr w gb g s W) {s' : St} {f : Func} {a : Act} {n m : Nat} (hr : f.results = #[.cell n 44, .tmp m]) (hd : a.defers = []) (ha : a.tmps.getD n undef = .pointer (some ⟨gb, 0, none⟩)) (hb : a.tmps.getD m undef = .bool true) :
    bodyPost Tryz.prog f (RetB (some s') w) Exit.ret a ((((((W.setCell ⟨gb, 0, none⟩ (.int .i64 s'.pos)).setCell ⟨gb, 1, none⟩ (.string s'.name)).setCell ⟨gb, 2, none⟩ (.bool s'.fin)).setCell ⟨gb, 3, none⟩ (.string s'.attr)).setCell ⟨gb, 4, none⟩ (.string s'.held)).setCell ⟨gb, 5, none⟩ (.int .i64 s'.read)) :=
  bodyPost_ret (results_ct hr a.tmps _ gb 44 _ (0, 0) _ ha (set6 h.res rfl) Tryz.underlying44 rfl (by kernel_rfl)) hd ⟨by rw [hb], below6 h.low h.lo⟩
theorem Fr.retN {w W : World} {gb g : Nat} {s : St} (h : Fr w gb g s W) {f : Func} {a : Act} {n m : Nat} (hr : f.results = #[.cell n 44, .tmp m]) (hd : a.defers = []) (ha : a.tmps.getD n undef = .pointer (some ⟨gb, 0, none⟩)) (hb : a.tmps.getD m undef = .bool false) :
    bodyPost Tryz.prog f (RetB none w) Exit.ret a ((((((W.setCell ⟨gb, 0, none⟩ (.int .i64 0)).setCell ⟨gb, 1, none⟩ (.string ⟨#[]⟩)).setCell ⟨gb, 2, none⟩ (.bool false)).setCell ⟨gb, 3, none⟩ (.string ⟨#[]⟩)).setCell ⟨gb, 4, none⟩ (.string ⟨#[]⟩)).setCell ⟨gb, 5, none⟩ (.int .i64 0)) :=
  bodyPost_ret (results_ct hr a.tmps _ gb 44 _ (0, 0) _ ha (set6 (s := ⟨0, ⟨#[]⟩, false, ⟨#[]⟩, ⟨#[]⟩, 0⟩) h.res rfl) Tryz.underlying44 rfl (by kernel_rfl)) hd ⟨by rw [hb], below6 (s := ⟨0, ⟨#[]⟩, false, ⟨#[]⟩, ⟨#[]⟩, 0⟩) h.low h.lo⟩
set_option maxHeartbeats 1600000 in
theorem between_calls (s : St) (c : Nat) (x : Int) (g : Nat) (w : World) (hc : c < 256) (h : StAt w g s) : Calls Tryz.prog 153 #[.pointer (some ⟨g, 0, none⟩), .int .u8 c, .int .i64 x] w (RetB (betweenS s c x) w) := by
  have hu40 := Tryz.underlying44
  have HS := Aside0.mk h
  clear h
  by_cases q1 : blankN c = true
  · skip
    have HBl := Aside0.mk (fun w => blank_calls c w)
    rw [q1] at HBl
    have HD := Aside0.mk (show betweenS s c x = some (inS s x) by unfold betweenS; rw [if_pos q1])
    clear q1
    go_enter Tryz.func153, Tryz.ntmps153
    go_wp2_with (first
      | ((with_reducible refine gate_dst (N := 6) rfl ?_); refine box_event ?hg (N := 6) ?hd (cs := #[.int .i64 0, .string ⟨#[]⟩, .bool false, .string ⟨#[]⟩, .string ⟨#[]⟩, .int .i64 0]) (t := 44) ?hr ?_; (case hd => rfl); (case hg => rfl); (case hr => first | (go_simp; done) | (go_simp; rfl)); intro gb hgb w0_ hbox hb; have HF := Aside0.mk (Fr.start HS.out hgb hbox hb); clear hgb hbox hb; obtain ⟨s0, s1, s2, s3, s4, s5⟩ := HF.out.facts; obtain ⟨a0, a1, a2, a3, a4, a5, b0, b1, b2, b3, b4, b5⟩ := HF.out.rfacts)
      | (go_at_call 156; refine (HBl.out _).mono ?_; rintro e w1 ⟨rfl, rfl⟩)
      | (go_at_call 159; refine (in_calls s _ g _ (by first | exact HF.out.st | exact HF.out.st.alloc _ | exact (HF.out.st.alloc _).alloc _)).mono ?_; rintro e w1 ⟨rfl, hb⟩; have HF := Aside0.mk (Fr.step (by (with_reducible repeat (first | exact HF.out | apply Fr.alloc | apply Fr.drew | apply Fr.drewN))) hb); clear hb; obtain ⟨s0, s1, s2, s3, s4, s5⟩ := HF.out.facts; obtain ⟨a0, a1, a2, a3, a4, a5, b0, b1, b2, b3, b4, b5⟩ := HF.out.rfacts))
    rw [HD.out]
    exact HF.out.retB rfl rfl rfl rfl
  · skip
    have HBl := Aside0.mk (fun w => blank_calls c w)
    rw [Bool.eq_false_iff.2 q1] at HBl
    by_cases q2 : c = 47
    · skip
      have d47 : ((c : Int) == 47) = true := by rw [beq_iff_eq]; omega
      have HD := Aside0.mk (show betweenS s c x = some (inS s 12) by unfold betweenS; rw [if_neg q1, if_pos q2])
      clear q1 q2
      go_enter Tryz.func153, Tryz.ntmps153
      go_wp2_with (first
        | ((with_reducible refine gate_dst (N := 6) rfl ?_); refine box_event ?hg (N := 6) ?hd (cs := #[.int .i64 0, .string ⟨#[]⟩, .bool false, .string ⟨#[]⟩, .string ⟨#[]⟩, .int .i64 0]) (t := 44) ?hr ?_; (case hd => rfl); (case hg => rfl); (case hr => first | (go_simp; done) | (go_simp; rfl)); intro gb hgb w0_ hbox hb; have HF := Aside0.mk (Fr.start HS.out hgb hbox hb); clear hgb hbox hb; obtain ⟨s0, s1, s2, s3, s4, s5⟩ := HF.out.facts; obtain ⟨a0, a1, a2, a3, a4, a5, b0, b1, b2, b3, b4, b5⟩ := HF.out.rfacts)
        | (go_at_call 156; refine (HBl.out _).mono ?_; rintro e w1 ⟨rfl, rfl⟩)
        | (go_at_call 159; refine (in_calls s _ g _ (by first | exact HF.out.st | exact HF.out.st.alloc _ | exact (HF.out.st.alloc _).alloc _)).mono ?_; rintro e w1 ⟨rfl, hb⟩; have HF := Aside0.mk (Fr.step (by (with_reducible repeat (first | exact HF.out | apply Fr.alloc | apply Fr.drew | apply Fr.drewN))) hb); clear hb; obtain ⟨s0, s1, s2, s3, s4, s5⟩ := HF.out.facts; obtain ⟨a0, a1, a2, a3, a4, a5, b0, b1, b2, b3, b4, b5⟩ := HF.out.rfacts))
      rw [HD.out]
      exact HF.out.retB rfl rfl rfl rfl
    · skip
      have d47 : ((c : Int) == 47) = false := by rw [beq_eq_false_iff_ne]; omega
      by_cases q3 : c = 62
      · skip
        have d62 : ((c : Int) == 62) = true := by rw [beq_iff_eq]; omega
        have HD := Aside0.mk (show betweenS s c x = some (closesS s) by unfold betweenS; rw [if_neg q1, if_neg q2, if_pos q3])
        clear q1 q2 q3
        go_enter Tryz.func153, Tryz.ntmps153
        go_wp2_with (first
          | ((with_reducible refine gate_dst (N := 6) rfl ?_); refine box_event ?hg (N := 6) ?hd (cs := #[.int .i64 0, .string ⟨#[]⟩, .bool false, .string ⟨#[]⟩, .string ⟨#[]⟩, .int .i64 0]) (t := 44) ?hr ?_; (case hd => rfl); (case hg => rfl); (case hr => first | (go_simp; done) | (go_simp; rfl)); intro gb hgb w0_ hbox hb; have HF := Aside0.mk (Fr.start HS.out hgb hbox hb); clear hgb hbox hb; obtain ⟨s0, s1, s2, s3, s4, s5⟩ := HF.out.facts; obtain ⟨a0, a1, a2, a3, a4, a5, b0, b1, b2, b3, b4, b5⟩ := HF.out.rfacts)
          | (go_at_call 156; refine (HBl.out _).mono ?_; rintro e w1 ⟨rfl, rfl⟩)
          | (go_at_call 157; refine (closes_calls s g _ (by first | exact HF.out.st | exact HF.out.st.alloc _ | exact (HF.out.st.alloc _).alloc _)).mono ?_; rintro e w1 ⟨rfl, hb⟩; have HF := Aside0.mk (Fr.step (by (with_reducible repeat (first | exact HF.out | apply Fr.alloc | apply Fr.drew | apply Fr.drewN))) hb); clear hb; obtain ⟨s0, s1, s2, s3, s4, s5⟩ := HF.out.facts; obtain ⟨a0, a1, a2, a3, a4, a5, b0, b1, b2, b3, b4, b5⟩ := HF.out.rfacts))
        rw [HD.out]
        exact HF.out.retB rfl rfl rfl rfl
      · skip
        have d62 : ((c : Int) == 62) = false := by rw [beq_eq_false_iff_ne]; omega
        have HD := Aside0.mk (show betweenS s c x = none by unfold betweenS; rw [if_neg q1, if_neg q2, if_neg q3])
        clear q1 q2 q3
        go_enter Tryz.func153, Tryz.ntmps153
        go_wp2_with (first
          | ((with_reducible refine gate_dst (N := 6) rfl ?_); refine box_event ?hg (N := 6) ?hd (cs := #[.int .i64 0, .string ⟨#[]⟩, .bool false, .string ⟨#[]⟩, .string ⟨#[]⟩, .int .i64 0]) (t := 44) ?hr ?_; (case hd => rfl); (case hg => rfl); (case hr => first | (go_simp; done) | (go_simp; rfl)); intro gb hgb w0_ hbox hb; have HF := Aside0.mk (Fr.start HS.out hgb hbox hb); clear hgb hbox hb; obtain ⟨s0, s1, s2, s3, s4, s5⟩ := HF.out.facts; obtain ⟨a0, a1, a2, a3, a4, a5, b0, b1, b2, b3, b4, b5⟩ := HF.out.rfacts)
          | (go_at_call 156; refine (HBl.out _).mono ?_; rintro e w1 ⟨rfl, rfl⟩))
        rw [HD.out]
        exact HF.out.retN rfl rfl rfl rfl
end Go.Proofs.YtfmcdlbbbmeolaaGreatDoor.Tk
end
section
namespace Go.Proofs.YtfmcdlbbbmeolaaGreatDoor.Tk
open Go.RowKit Go.Proofs.YtfmcdlbbbmeolaaGreatDoor.XK Go.Proofs.YtfmcdlbbbmeolaaGreatDoorW.PrintWords Go.Proofs.YtfmcdlbbbmeolaaGreatDoorW.PrintLast Go.Proofs.YtfmcdlbbbmeolaaGreatDoorW.PrintMore
open Go.Proofs.YtfmcdlbbbmeolaaGreatDoor.Refs (lowN lowByte_calls decL)
attribute [local go_sem ↓] Go.wp_at_zero Go.wp_at_succ
set_option linter.unusedVariables false
set_option linter.unusedSimpArgs false
set_option maxRecDepth 100000
theorem infoTok : (Tryz.prog.info? 41).map (fun i => (i.zero, i.size, i.bytes)) = some (some (.agg #[(.int .i64 0), (.string ⟨#[]⟩), (.string ⟨#[]⟩), (.slice none 0 0), (.bool false)]), 5, 72) := by kernel_rfl
theorem infoAttr : (Tryz.prog.info? 39).map (fun i => (i.zero, i.size, i.bytes)) = some (some (.agg #[(.string ⟨#[]⟩), (.string ⟨#[]⟩)]), 2, 32) := by kernel_rfl
theorem cell_alloc {w : World} {a : Addr} {v : Value} (h : w.cell? a = some v) (o : Obj) : (w.alloc o).cell? a = some v := pw_cell_below ((Below.refl _ _).alloc (Nat.le_refl _) o) h
structure Rd where
  out : List S41
  fr : Nat
  op : Nat
  held : ByteArray
  ats : List S39
  bg : Nat
def decS (s : ByteArray) : ByteArray := ⟨(decL s.data.toList).toArray⟩
def textV (h s : ByteArray) : ByteArray := if kindOf h = 3 then s else if kindOf h = 4 then s else decS s
def textR (p : ByteArray) (r : Rd) (t : Nat) : Rd :=
  if (p.extract r.fr t).toList.isEmpty = true then r else { r with out := r.out ++ [⟨0, ⟨#[]⟩, textV r.held (p.extract r.fr t), [], false⟩] }
def toldR (p : ByteArray) (r : Rd) (t : S41) (i : Nat) : Rd := { textR p r r.op with out := (textR p r r.op).out ++ [t], fr := i + 1 }
def has (nm : ByteArray) (xs : List S39) : Bool := xs.any fun x => x.f0.toList == nm.toList
def keepA (out : List S39) (a : S39) : List S39 := if out.length < 32 ∧ has a.f0 out = false then out ++ [⟨a.f0, decS a.f1⟩] else out
def keptR (ats : List S39) : List S39 := ats.foldl keepA []
def tagT (r : Rd) (s : St) : S41 :=
  if s.pos = 22 then ⟨2, s.held, ⟨#[]⟩, [], false⟩ else if s.fin = true then ⟨2, s.name, ⟨#[]⟩, [], false⟩ else ⟨1, s.name, ⟨#[]⟩, keptR r.ats, s.pos == 12⟩
def tagR (p : ByteArray) (r : Rd) (s : St) (i : Nat) : Rd := toldR p r (tagT r s) i
def comT (p : ByteArray) (r : Rd) (s : St) (i : Nat) : S41 := ⟨3, ⟨#[]⟩, if s.pos = 17 then p.extract (r.op + 4) (i - 2) else p.extract (r.op + 2) i, [], false⟩
def comR (p : ByteArray) (r : Rd) (s : St) (i : Nat) : Rd := toldR p r (comT p r s i) i
def setName (xs : List S39) (nm : ByteArray) : List S39 := xs.set (xs.length - 1) ⟨nm, (rd_T39 xs ((xs.length : Int) - 1)).f1⟩
def setVal (xs : List S39) (v : ByteArray) : List S39 := xs.set (xs.length - 1) ⟨(rd_T39 xs ((xs.length : Int) - 1)).f0, v⟩
def readsR (p : ByteArray) (r : Rd) (s nx : St) (i : Nat) : Rd :=
  if nx.pos = 3 then { r with ats := [] }
  else if nx.pos = 5 then (if s.pos = 5 then { r with ats := setName r.ats nx.attr } else { r with ats := setName (r.ats ++ [⟨⟨#[]⟩, ⟨#[]⟩⟩]) nx.attr })
  else if nx.pos = 10 then (if s.pos = 10 then { r with ats := setVal r.ats (p.extract r.bg (i + 1)) } else { r with ats := setVal r.ats (p.extract i (i + 1)), bg := i })
  else if nx.pos = 8 ∨ nx.pos = 9 then (if s.pos = nx.pos then { r with ats := setVal r.ats (p.extract r.bg (i + 1)) } else { r with ats := setVal r.ats (p.extract (i + 1) (i + 1)), bg := i + 1 })
  else r
def endsB (s : St) : Bool := if s.pos = 3 ∨ s.pos = 4 ∨ s.pos = 5 ∨ s.pos = 6 ∨ s.pos = 7 ∨ s.pos = 10 ∨ s.pos = 11 ∨ s.pos = 12 then true else if s.pos = 22 then decide (s.read = s.held.size) else false
def remarksB (s : St) : Bool := if s.pos = 13 ∨ s.pos = 14 ∨ s.pos = 18 ∨ s.pos = 17 then true else false
def takesR (p : ByteArray) (r : Rd) (s nx : St) (i : Nat) : Rd :=
  if byteAt p (i : Int) = 60 ∧ (nx.pos = 1 ∨ nx.pos = 20) then { r with op := i }
  else if byteAt p (i : Int) = 62 ∧ endsB s = true then { tagR p r s i with held := nx.held }
  else if byteAt p (i : Int) = 62 ∧ remarksB s = true then comR p r s i
  else readsR p r s nx i
def restB (s : St) : Bool := if s.pos = 0 ∨ s.pos = 1 ∨ s.pos = 2 ∨ s.pos = 19 ∨ s.pos = 20 ∨ s.pos = 21 ∨ s.pos = 22 then true else false
def restR (p : ByteArray) (r : Rd) (s : St) : Rd := if restB s = true then textR p r p.size else textR p r r.op
def RdAt (w : World) (base b : Nat) (ok : Nat → Prop) (p : ByteArray) (r : Rd) : Prop :=
  base ≤ b ∧ ∃ v0 v1, w.heap[b]? = some (.cells #[.string p, v0, .int .i64 r.fr, .int .i64 r.op, .string r.held, v1, .int .i64 r.bg] 85 (0, 0)) ∧
    Kd.S k41 41 w base (fun k => ok k ∧ some k ≠ v1.ownBlock) v0 r.out ∧ Kd.R k39 39 w base ok v1 r.ats
def StKeep (w w' : World) : Prop := ∀ (k : Nat) (cs : Array Value), w.heap[k]? = some (.cells cs 44 (0, 0)) → w'.heap[k]? = some (.cells cs 44 (0, 0))
section
variable {w w1 w2 : World} {base b : Nat} {ok : Nat → Prop} {p : ByteArray} {r : Rd}
theorem RdAt.below (h : RdAt w base b ok p r) (hb : Below w.heap.size w w1) : RdAt w1 base b ok p r := by
  obtain ⟨h0, v0, v1, h1, h2, h3⟩ := h
  exact ⟨h0, v0, v1, blk_below h1 hb, Kd.S_below h2 hb, Kd.R_below h3 hb⟩
theorem RdAt.alloc (h : RdAt w base b ok p r) (o : Obj) : RdAt (w.alloc o) base b ok p r := h.below (below_alloc (Below.refl _ _) o)
theorem RdAt.drewN (h : RdAt w base b ok p r) (n : Nat) : RdAt (w.drewN n) base b ok p r := h.below (pw_below_drewN (Below.refl _ _) n)
theorem RdAt.mono {ok' : Nat → Prop} (h : RdAt w base b ok p r) (hok : ∀ k, ok k → ok' k) : RdAt w base b ok' p r := by
  obtain ⟨h0, v0, v1, h1, h2, h3⟩ := h
  exact ⟨h0, v0, v1, h1, Kd.S_mono h2 (fun k hk => ⟨hok k hk.1, hk.2⟩), Kd.R_mono h3 hok⟩
theorem RdAt.old (h : RdAt w base b ok p r) (hb : Below w.heap.size w w1) : RdAt w1 base b (fun k => ok k ∧ k < w.heap.size) p r := by
  obtain ⟨h0, v0, v1, h1, h2, h3⟩ := h
  exact ⟨h0, v0, v1, blk_below h1 hb, Kd.S_mono (Kd.S_old h2 hb) (fun k hk => ⟨⟨hk.1.1, hk.2⟩, hk.1.2⟩), Kd.R_below (Kd.R_mono (Kd.R_bound h3) (fun k hk => ⟨hk.1, hk.2.2.1⟩)) hb⟩
theorem StKeep.refl (w : World) : StKeep w w := fun _ _ h => h
theorem StKeep.trans (h : StKeep w w1) (h2 : StKeep w1 w2) : StKeep w w2 := fun k cs hk => h2 k cs (h k cs hk)
theorem StKeep.below (hb : Below w.heap.size w w1) : StKeep w w1 := fun k cs hk => blk_below hk hb
theorem StKeep.grown {v : Value} {e : Nat} (hg : w.grownBy w1 v.ownBlock) (hty : ∀ k, v.ownBlock = some k → ∃ cells, w.heap[k]? = some (.cells cells e (0, 0))) (he : e ≠ 44) : StKeep w w1 := fun k cs hk => by
  refine blk_grown hk hg (fun e1 => ?_)
  obtain ⟨cells, hc⟩ := hty k e1.symm
  rw [hk] at hc
  injection hc with hc
  injection hc with _ hc
  exact he hc.symm
theorem StKeep.set {g t j : Nat} {cells : Array Value} {u : Value} (hb : w.heap[g]? = some (.cells cells t (0, 0))) (ht : t ≠ 44) : StKeep w (w.setCell ⟨g, j, none⟩ u) := fun k cs hk => by
  refine (Below.heap_setCell w ⟨g, j, none⟩ u k (fun e => ?_)).trans hk
  simp only at e
  subst e
  rw [hk] at hb
  injection hb with hb
  injection hb with _ hb
  exact ht hb.symm
theorem StKeep.st {g : Nat} {s : St} (h : StKeep w w1) (hs : StAt w g s) : StAt w1 g s := h g _ hs
end
end Go.Proofs.YtfmcdlbbbmeolaaGreatDoor.Tk
end
section
namespace Go.Proofs.YtfmcdlbbbmeolaaGreatDoor.Tk
open Go.RowKit Go.Proofs.YtfmcdlbbbmeolaaGreatDoor.XK Go.Proofs.YtfmcdlbbbmeolaaGreatDoorW.PrintWords Go.Proofs.YtfmcdlbbbmeolaaGreatDoorW.PrintLast Go.Proofs.YtfmcdlbbbmeolaaGreatDoorW.PrintMore
open Go.Proofs.YtfmcdlbbbmeolaaGreatDoor.Refs (lowN lowByte_calls decL decode_calls)
set_option linter.unusedVariables false
set_option linter.unusedSimpArgs false
def NatInt (xs : List S39) (nm : ByteArray) (w : World) (e : Ending) (w' : World) : Prop := ∃ r : Int, e = .returned (.int .i64 r) ∧ decide (0 ≤ r) = has nm xs ∧ Below w.heap.size w w'
theorem has_snoc (nm : ByteArray) (xs : List S39) (k : Nat) (h : k < xs.length) : has nm (xs.take (k + 1)) = (has nm (xs.take k) || (xs[k].f0.toList == nm.toList)) := by
  unfold has; rw [List.take_succ_eq_append_getElem h, List.any_append]; simp
set_option maxHeartbeats 800000 in
theorem same_calls (x : S39) (nm : ByteArray) (a : Addr) (w : World) (hc : w.cell? a = some (.string nm)) :
    Calls Tryz.prog 204 #[.agg #[.string x.f0, .string x.f1], .pointer (some a)] w fun e w' => e = .returned (.bool (x.f0.toList == nm.toList)) ∧ Below w.heap.size w w' := by
  have hB : Below w.heap.size w (w.alloc (.cells #[.string x.f0, .string x.f1] 39)) := (Below.refl _ _).alloc (Nat.le_refl _) _
  have HB := Aside0.mk hB
  have hc' := cell_alloc hc (.cells #[.string x.f0, .string x.f1] 39)
  clear hB hc
  go_enter Tryz.func204, Tryz.ntmps204
  go_wp2
  go_ret
  exact ⟨rfl, HB.out⟩
set_option maxHeartbeats 1600000 in
theorem index_calls (xs : List S39) (A : Option Addr) (c : Nat) (nm : ByteArray) (a : Addr) (w : World) (hx : Kd.C k39 w A xs.length xs) (hc : w.cell? a = some (.string nm)) :
    Calls Tryz.prog 230 #[.slice A xs.length c, .func (.func 204) #[] #[.pointer (some a)]] w (NatInt xs nm w) := by
  have HX := Aside0.mk hx
  have HC := Aside0.mk hc
  have HL := Aside0.mk hx.2.1
  have hu48 := Tryz.underlying39
  clear hx hc
  go_enter Tryz.func230, Tryz.ntmps230
  go_wp2
  go_loopw [8] (fun i wr => ∃ k : Nat, k ≤ xs.length ∧ i = .int .i64 k ∧ Aside0 (has nm (xs.take k) = false) ∧ Aside0 (Below w.heap.size w wr))
    (fun i _ => xs.length - (RowKit.intOf i).toNat)
  case atStart => exact ⟨0, Nat.zero_le _, rfl, ⟨rfl⟩, ⟨Below.refl _ _⟩⟩
  case round =>
    obtain ⟨k, hk, rfl, HN, HB⟩ := hrel
    have hm := HL.out
    by_cases hlt : k < xs.length
    · obtain ⟨ad, e, h0, h1⟩ := at_T39 HX.out (k : Int) (by omega) (by omega)
      cases e
      replace h0 := pw_cell_below HB.out h0
      replace h1 := pw_cell_below HB.out h1
      simp only [Int.toNat_natCast] at h0 h1
      obtain ⟨x, hxx⟩ : ∃ x, rd_T39 xs (k : Int) = x := ⟨_, rfl⟩
      rw [hxx] at h0 h1
      have HX1 := Aside0.mk (show xs[k] = x by rw [← hxx]; simp [rd_T39, List.getD_eq_getElem?_getD, List.getElem?_eq_getElem hlt])
      have HC1 := Aside0.mk (pw_cell_below HB.out HC.out)
      clear hxx
      by_cases hq : (x.f0.toList == nm.toList) = true
      · have HS := Aside0.mk (same_calls x nm a wr HC1.out)
        rw [hq] at HS
        have HQ := Aside0.mk hq
        clear hq
        go_wp2_with (go_at_call 204; refine HS.out.mono ?_; rintro e w2 ⟨rfl, hb2⟩)
        go_ret
        refine ⟨(k : Int), rfl, ?_, HB.out.trans (hb2.mono HB.out.size)⟩
        have hh : has nm xs = true := by
          unfold has
          rw [List.any_eq_true]
          exact ⟨xs[k], List.getElem_mem _, by rw [HX1.out]; exact HQ.out⟩
        rw [hh]; simp
      · have hq : (x.f0.toList == nm.toList) = false := by simpa using hq
        have HS := Aside0.mk (same_calls x nm a wr HC1.out)
        rw [hq] at HS
        have HQ := Aside0.mk hq
        clear hq
        go_wp2_with (go_at_call 204; refine HS.out.mono ?_; rintro e w2 ⟨rfl, hb2⟩)
        have HB2 := Aside0.mk (HB.out.trans (hb2.mono HB.out.size))
        have HN2 := Aside0.mk (show has nm (xs.take (k + 1)) = false by rw [has_snoc nm xs k hlt, HN.out, HX1.out, HQ.out]; rfl)
        clear hb2
        go_roundw
        case rel => exact ⟨k + 1, by omega, by go_num, HN2, HB2⟩
        case measure => simp [RowKit.intOf]; omega
    · have HN2 := Aside0.mk (show has nm xs = false by have := HN.out; rwa [List.take_of_length_le (by omega)] at this)
      go_wp2
      go_ret
      exact ⟨-1, rfl, by rw [HN2.out]; rfl, HB.out⟩
theorem contains_calls (xs : List S39) (A : Option Addr) (c : Nat) (nm : ByteArray) (a : Addr) (w : World) (hx : Kd.C k39 w A xs.length xs) (hc : w.cell? a = some (.string nm)) :
    Calls Tryz.prog 205 #[.slice A xs.length c, .func (.func 204) #[] #[.pointer (some a)]] w fun e w' => e = .returned (.bool (has nm xs)) ∧ Below w.heap.size w w' := by
  have HI := Aside0.mk (index_calls xs A c nm a w hx hc)
  clear hx hc
  go_enter Tryz.func205, Tryz.ntmps205
  go_wp2_with (go_at_call 230; refine HI.out.mono ?_; rintro e w2 ⟨r, rfl, hr, hb2⟩; have HR := Aside0.mk hr; clear hr)
  go_ret
  refine ⟨?_, hb2⟩
  rw [← HR.out]; rfl
theorem keep_snoc (xs : List S39) (k : Nat) (h : k < xs.length) : keptR (xs.take (k + 1)) = keepA (keptR (xs.take k)) xs[k] := by
  unfold keptR; rw [List.take_succ_eq_append_getElem h, List.foldl_append]; rfl
theorem keep_len (xs : List S39) : (keptR xs).length ≤ 32 := by
  have h : ∀ (xs acc : List S39), acc.length ≤ 32 → (xs.foldl keepA acc).length ≤ 32 := by
    intro xs
    induction xs with
    | nil => intro acc h; exact h
    | cons x xs ih =>
      intro acc h
      refine ih _ ?_
      unfold keepA
      split
      · rw [List.length_append, List.length_singleton]; omega
      · exact h
  exact h xs [] (by simp)
end Go.Proofs.YtfmcdlbbbmeolaaGreatDoor.Tk
end
section
namespace Go.Proofs.YtfmcdlbbbmeolaaGreatDoor.Tk
open Go.RowKit Go.Proofs.YtfmcdlbbbmeolaaGreatDoor.XK Go.Proofs.YtfmcdlbbbmeolaaGreatDoorW.PrintWords Go.Proofs.YtfmcdlbbbmeolaaGreatDoorW.PrintLast Go.Proofs.YtfmcdlbbbmeolaaGreatDoorW.PrintMore
open Go.Proofs.YtfmcdlbbbmeolaaGreatDoor.Refs (lowN lowByte_calls decL decode_calls)
attribute [local go_sem ↓] Go.wp_at_zero Go.wp_at_succ
set_option linter.unusedVariables false
set_option linter.unusedSimpArgs false
set_option maxRecDepth 100000
def KeptP (xs : List S39) (w : World) (e : Ending) (w' : World) : Prop := ∃ v, e = .returned v ∧ Kd.R k39 39 w' w.heap.size (fun _ => True) v (keptR xs) ∧ Below w.heap.size w w'
set_option maxHeartbeats 3200000 in
theorem kept_calls (xs : List S39) (A : Option Addr) (c b : Nat) (w : World) (hb : w.cell? ⟨b, 5, none⟩ = some (.slice A xs.length c)) (hx : Kd.C k39 w A xs.length xs) (hsz : ∀ x ∈ xs, x.f1.size ≤ 140737488355328) :
    Calls Tryz.prog 164 #[.pointer (some ⟨b, 0, none⟩)] w (KeptP xs w) := by
  have HX := Aside0.mk hx
  have HL := Aside0.mk hx.2.1
  have HSZ := Aside0.mk hsz
  have hu := Tryz.underlying39
  have hmf : ∀ (fn : Fn) (first cap : Array Value) (w : World), (Instr.makeFunc fn first cap).run Tryz.prog w = .ok (.func fn first cap) w := fun _ _ _ _ => rfl
  clear hx hsz
  go_enter Tryz.func164, Tryz.ntmps164
  go_wp2
  go_loopw [12, 3] (fun i o wr => ∃ k : Nat, k ≤ xs.length ∧ i = .int .i64 k ∧ Aside0 (Kd.R k39 39 wr w.heap.size (fun _ => True) o (keptR (xs.take k))) ∧ Aside0 (Below w.heap.size w wr))
    (fun i _ _ => xs.length - (RowKit.intOf i).toNat)
  case atStart => exact ⟨0, Nat.zero_le _, rfl, ⟨Kd.R_nil _ _ _ _ _⟩, ⟨Below.refl _ _⟩⟩
  case round =>
    obtain ⟨k, hk, rfl, HO, HB⟩ := hrel
    have hm := HL.out
    by_cases hlt : k < xs.length
    · obtain ⟨ad, e, h0, h1⟩ := at_T39 HX.out (k : Int) (by omega) (by omega)
      cases e
      replace h0 := pw_cell_below HB.out h0
      replace h1 := pw_cell_below HB.out h1
      simp only [Int.toNat_natCast] at h0 h1
      obtain ⟨x, hxx⟩ : ∃ x, rd_T39 xs (k : Int) = x := ⟨_, rfl⟩
      rw [hxx] at h0 h1
      have hxk : xs[k] = x := by rw [← hxx]; simp [rd_T39, List.getD_eq_getElem?_getD, List.getElem?_eq_getElem hlt]
      have HX1 := Aside0.mk hxk
      have hsx := HSZ.out x (by rw [← hxk]; exact List.getElem_mem _)
      have HSN := Aside0.mk (keep_snoc xs k hlt)
      have HDe := Aside0.mk (fun w => decode_calls x.f1 w hsx)
      have hkl := keep_len (xs.take k)
      obtain ⟨ks, hks⟩ : ∃ ks, keptR (xs.take k) = ks := ⟨_, rfl⟩
      rw [hks, hxk] at HSN
      rw [hks] at HO hkl
      obtain ⟨Ao, co, rfl, hoc, hC⟩ := Kd.R_reads HO.out
      have HCo := Aside0.mk hC
      clear hxx hxk hks hsx hC
      by_cases q1 : ks.length < 32
      · have d1 : decide ((ks.length : Int) < 32) = true := decide_eq_true (by omega)
        have HK := Aside0.mk (contains_calls ks Ao co x.f0 ⟨wr.heap.size, 0, none⟩ (wr.alloc (.cells #[.string x.f0, .string x.f1] 39)) (Kd.C_alloc HCo.out _) (by rw [blk_cell (heap_alloc_new wr _)]; rfl))
        have HA := Aside0.mk (HB.out.alloc HB.out.size (.cells #[.string x.f0, .string x.f1] 39))
        by_cases q2 : has x.f0 ks = true
        · rw [q2] at HK
          have HKA := Aside0.mk (HSN.out.trans (show keepA ks x = ks by unfold keepA; rw [if_neg (fun h => by rw [q2] at h; exact absurd h.2 (by simp))]))
          clear q1 q2 hkl
          go_wp2_with (go_at_call 205; refine HK.out.mono ?_; rintro e w2 ⟨rfl, hb2⟩)
          have HB2 := Aside0.mk (HA.out.trans (hb2.mono HA.out.size))
          have HO2 := Aside0.mk (Kd.R_below (Kd.R_alloc HO.out _) hb2)
          clear hb2
          go_wp2
          go_roundw
          case rel => exact ⟨k + 1, by omega, by go_num, ⟨by rw [HKA.out]; exact HO2.out⟩, HB2⟩
          case measure => simp [RowKit.intOf]; omega
        · have q2 : has x.f0 ks = false := by simpa using q2
          rw [q2] at HK
          have HKA := Aside0.mk (HSN.out.trans (show keepA ks x = ks ++ [⟨x.f0, decS x.f1⟩] by unfold keepA; rw [if_pos ⟨q1, q2⟩]))
          clear q1 q2 
          go_wp2_with (go_at_call 205; refine HK.out.mono ?_; rintro e w2 ⟨rfl, hb2⟩)
          have HB2 := Aside0.mk (HA.out.trans (hb2.mono HA.out.size))
          have HO2 := Aside0.mk (Kd.R_below (Kd.R_alloc HO.out _) hb2)
          have c0 := pw_cell_below hb2 (show (wr.alloc (.cells #[.string x.f0, .string x.f1] 39)).cell? ⟨wr.heap.size, 0, none⟩ = some (.string x.f0) by rw [blk_cell (heap_alloc_new wr _)]; rfl)
          have c1 := pw_cell_below hb2 (show (wr.alloc (.cells #[.string x.f0, .string x.f1] 39)).cell? ⟨wr.heap.size, 1, none⟩ = some (.string x.f1) by rw [blk_cell (heap_alloc_new wr _)]; rfl)
          obtain ⟨gA, hgA⟩ : ∃ gA, wr.heap.size = gA := ⟨_, rfl⟩
          rw [hgA] at c0 c1 ⊢
          clear hb2 hgA HK HA
          go_wp2
          refine start_ (n := 10) (S := fun w' => w'.cell? ⟨gA, 0, none⟩ = some (.string x.f0) ∧ w'.cell? ⟨gA, 1, none⟩ = some (.string x.f1)) (ds := [8]) #[false, false, false, false, false, false, false, false, false, false] (by kernel_rfl) rfl rfl ⟨c0, c1⟩ (fun hHeld => ?_)
          refine pS 0 26 #[true, false, false, false, false, false, false, false, false, false] ?_
          refine pS 1 27 #[true, true, false, false, false, false, false, false, false, false] ?_
          refine pS 3 29 #[true, true, false, true, false, false, false, false, false, false] ?_
          refine take_ (i := 2) (N := some 28) (v := ?_) (a' := ?_) #[true, true, true, true, false, false, false, false, false, false] rfl rfl (by kernel_rfl) (fun _ _ _ h => h) (Or.inl ⟨by rfl, ?_⟩) hHeld ?_ ?_
          rotate_left
          · rintro w' ⟨s0, s1⟩
            go_simp
            with_reducible rfl
          rotate_left
          · simp only [Act.put, zA, zZ, zS, i64_w, i32_w]
            rfl
          refine take_ (i := 4) (N := some 30) (v := ?_) (a' := ?_) #[true, true, true, true, true, false, false, false, false, false] rfl rfl (by kernel_rfl) (fun _ _ _ h => h) (Or.inl ⟨by rfl, ?_⟩) hHeld ?_ ?_
          rotate_left
          · rintro w' ⟨s0, s1⟩
            go_simp
            with_reducible rfl
          rotate_left
          · simp only [Act.put, zA, zZ, zS, i64_w, i32_w]
            rfl
          refine one_ (i := 5) (N := some 31) #[true, true, true, true, true, true, false, false, false, false] rfl rfl (by kernel_rfl) (by decide) (fun K hK => ?_)
          refine goes_ Tryz.func168 (by kernel_rfl) rfl #[.string x.f1] (by rfl) rfl rfl (by simp only [List.map_toArray, List.map_cons, List.map_nil]; rfl) ?_
          with_reducible refine (HDe.out _).mono ?_
          rintro e w3 ⟨rfl, hb3⟩
          refine ⟨_, rfl, ?_⟩
          refine hK.out _ _ ⟨(pw_cell_below hb3 c0), (pw_cell_below hb3 c1)⟩ (fun hHeld => ?_)
          clear hK K
          refine norm_ (a' := ?_) ?_ ?_
          rotate_left
          · show Act.put _ (some 31) _ = _
            simp only [Act.put, zA, zZ, zS, i64_w, i32_w]
            rfl
          refine pS 6 32 #[true, true, true, true, true, true, true, false, false, false] ?_
          refine one_ (i := 7) (N := some 33) #[true, true, true, true, true, true, true, true, false, false] rfl rfl (by kernel_rfl) (by decide) (fun K hK => ?_)
          refine value_ (w1 := ?_) (v := ?_) (by rfl) rfl ?_ ?_
          rotate_left 2
          · go_simp
            constructor
            · rfl
            · rfl
          refine hK.out _ _ ⟨(cell_alloc (pw_cell_below hb3 c0) _), (cell_alloc (pw_cell_below hb3 c1) _)⟩ (fun hHeld => ?_)
          clear hK K
          refine norm_ (a' := ?_) ?_ ?_
          rotate_left
          · show Act.put _ (some 33) _ = _
            simp only [Act.put, zA, zZ, zS, i64_w, i32_w]
            rfl
          refine last_ (i := 8) (N := some 34) #[true, true, true, true, true, true, true, true, true, false] rfl rfl (by kernel_rfl) (by decide) (fun K hK => ?_)
          refine Kd.R_append_step k39 (w0 := w) (W := w3) w.heap.size (by rfl) (.tmp 26) (.tmp 33) 35 39 (.agg #[(.string ⟨#[]⟩), (.string ⟨#[]⟩)]) 32 (by rfl) Tryz.underlying35 infoAttr (by rfl) (by decide) (by decide) (.slice Ao ks.length co) ks ⟨x.f0, decS x.f1⟩ [.string x.f0, .string (decS x.f1)] (fun _ => True) (fun _ => False) (by rfl) (by rfl) (k39_mkM _ _ _ (⟨x.f0, decS x.f1⟩ : S39)) (fun q hq => hq.elim) (fun _ _ => trivial) (Kd.R_below (Kd.R_drew HO2.out) hb3) ((below_drew HB2.out).trans (hb3.mono (below_drew HB2.out).size)) ((below_drew HB2.out).trans (hb3.mono (below_drew HB2.out).size)).size (by omega) ?_
          intro v9 w9 hR9 hB9 hgr hat
          refine hK.out _ _ ?_
          clear hK K
          refine norm_ (a' := ?_) ?_ ?_
          rotate_left
          · show Act.put _ (some 34) _ = _
            simp only [Act.put, zA, zZ, zS, i64_w, i32_w]
            rfl
          refine pS 9 3 #[true, true, true, true, true, true, true, true, true, true] ?_
          refine done_ (by kernel_rfl) ?_
          go_wp2
          go_roundw
          case rel => exact ⟨k + 1, by omega, by go_num, ⟨by rw [HKA.out]; exact hR9⟩, ⟨hB9⟩⟩
          case measure => simp [RowKit.intOf]; omega
      · have d1 : decide ((ks.length : Int) < 32) = false := decide_eq_false (by omega)
        have HA := Aside0.mk (HB.out.alloc HB.out.size (.cells #[.string x.f0, .string x.f1] 39))
        have HKA := Aside0.mk (HSN.out.trans (show keepA ks x = ks by unfold keepA; rw [if_neg (fun h => q1 h.1)]))
        clear q1 hkl
        go_wp2
        go_roundw
        case rel => exact ⟨k + 1, by omega, by go_num, ⟨by rw [HKA.out]; exact Kd.R_alloc HO.out _⟩, HA⟩
        case measure => simp [RowKit.intOf]; omega
    · have HN2 := Aside0.mk (show Kd.R k39 39 wr w.heap.size (fun _ => True) _ (keptR xs) from by have := HO.out; rw [List.take_of_length_le (by omega)] at this; exact this)
      go_wp2
      go_ret
      exact ⟨_, rfl, HN2.out, HB.out⟩
theorem slice_run {P : Program} (T : TypeId) (s : ByteArray) (i j : Nat) (h : i ≤ j) (h2 : j ≤ s.size) (W : World) (hT : P.underlying T = some .string) : (Instr.slice T (.string s) (some (.int .i64 (i : Int))) (some (.int .i64 (j : Int))) none).run P W = .ok (.string (s.extract i j)) W := by
  rw [run_slice_string W T s .i64 .i64 (i : Int) (j : Int) hT (by omega) (by omega) (by omega), Int.toNat_natCast, Int.toNat_natCast]
def Keeps (w w' : World) (b : Nat) (ok : Nat → Prop) : Prop := ∀ k, k < w.heap.size → k ≠ b → ¬ ok k → w'.heap[k]? = w.heap[k]?
theorem Keeps.below {w w' : World} {b : Nat} {ok : Nat → Prop} (hb : Below w.heap.size w w') : Keeps w w' b ok := fun k hk _ _ => hb.block k hk
structure TextP (w0 w : World) (b : Nat) (ok : Nat → Prop) (p : ByteArray) (r : Rd) (e : Ending) (w' : World) : Prop where
  ends : e = .returned (.tuple #[])
  at_ : RdAt w' w0.heap.size b ok p r
  low : Below w0.heap.size w0 w'
  st : StKeep w w'
  keeps : Keeps w w' b ok
theorem text_end {w0 w W w9 : World} {b : Nat} {ok : Nat → Prop} {p : ByteArray} {r : Rd} {v0 v1 v9 : Value} {t : S41}
    (hb0 : w0.heap.size ≤ b) (hb1 : W.heap[b]? = some (.cells #[.string p, v0, .int .i64 r.fr, .int .i64 r.op, .string r.held, v1, .int .i64 r.bg] 85 (0, 0)))
    (hS : Kd.S k41 41 W w0.heap.size (fun k => ok k ∧ some k ≠ v1.ownBlock) v0 r.out) (hR : Kd.R k39 39 W w0.heap.size ok v1 r.ats)
    (hW : Below w.heap.size w W) (hL : Below w0.heap.size w0 w)
    (hS9 : Kd.S k41 41 w9 w0.heap.size (fun k => ok k ∧ some k ≠ v1.ownBlock) v9 (r.out ++ [t])) (hB9 : Below w0.heap.size w0 w9) (hgr : W.grownBy w9 v0.ownBlock) :
    TextP w0 w b ok p { r with out := r.out ++ [t] } (.returned (.tuple #[])) (w9.setCell ⟨b, 1, none⟩ v9) := by
  have b9 : w9.heap[b]? = some (.cells #[.string p, v0, .int .i64 r.fr, .int .i64 r.op, .string r.held, v1, .int .i64 r.bg] 85 (0, 0)) := blk_grown hb1 hgr (Kd.S_ne hS hb1 (by decide))
  refine ⟨rfl, ⟨hb0, v9, v1, blk_set b9 1 _, Kd.S_set hS9 b9 (by decide) 1 _, Kd.R_set (Kd.R_over' hR (fun q hq => Kd.S_typed hS q hq) (by decide) hgr) b9 (by decide) 1 _⟩, hB9.setCell hb0 _, ((StKeep.below hW).trans (StKeep.grown hgr (fun q hq => Kd.S_typed hS q hq) (by decide))).trans (StKeep.set b9 (by decide)), fun k hk hkb hko => ?_⟩
  rw [Below.heap_setCell w9 ⟨b, 1, none⟩ v9 k hkb]
  have hlt : k < W.heap.size := Nat.lt_of_lt_of_le hk hW.size
  rw [hgr.block k hlt (fun e => hko ((Kd.S_R hS).1 k e.symm).1)]
  exact hW.block k hk
set_option maxHeartbeats 3200000 in
theorem text_calls (w0 w : World) (b : Nat) (ok : Nat → Prop) (p : ByteArray) (r : Rd) (t : Nat) (hB : Below w0.heap.size w0 w) (hI : RdAt w w0.heap.size b ok p r) (hok : ∀ k, w.heap.size ≤ k → ok k)
    (h1 : r.fr ≤ t) (h2 : t ≤ p.size) (hp : p.size ≤ 65536) (hout : r.out.length ≤ 1000000) :
    Calls Tryz.prog 111 #[.pointer (some ⟨b, 0, none⟩), .int .i64 (t : Int)] w (TextP w0 w b ok p (textR p r t)) := by
  have HB := Aside0.mk hB
  have HI := Aside0.mk hI
  have HOK := Aside0.mk hok
  obtain ⟨hb0, v0, v1, hb1, hs, hr⟩ := hI
  obtain ⟨A0, c0, rfl⟩ := Kd.S_slice hs
  obtain ⟨A1, c1, rfl⟩ := Kd.R_slice hr
  have HNV := Aside0.mk (show ∀ k, w.heap.size ≤ k → some k ≠ (Value.slice A1 r.ats.length c1).ownBlock from fun k hk e => by have := Kd.R_lt hr k e.symm; omega)
  have x0 : w.cell? ⟨b, 0, none⟩ = some (.string p) := (blk_cell hb1 0).trans rfl
  have x1 : w.cell? ⟨b, 1, none⟩ = some (.slice A0 r.out.length c0) := (blk_cell hb1 1).trans rfl
  have x2 : w.cell? ⟨b, 2, none⟩ = some (.int .i64 r.fr) := (blk_cell hb1 2).trans rfl
  have x4 : w.cell? ⟨b, 4, none⟩ = some (.string r.held) := (blk_cell hb1 4).trans rfl
  have hrun := fun W => slice_run (P := Tryz.prog) 9 p r.fr t h1 h2 W Tryz.underlying9
  have hq := fun (e : p.extract r.fr t = p.extract r.fr t) => e
  have hqs : (p.extract r.fr t).size ≤ 65536 := by rw [ByteArray.size_extract]; omega
  have HQ := Aside0.mk (show textR p r t = _ from rfl)
  obtain ⟨q, hqe⟩ : ∃ q, p.extract r.fr t = q := ⟨_, rfl⟩
  unfold textR at HQ ⊢
  rw [hqe] at hrun hqs ⊢
  have HB0 := Aside0.mk hb0
  have HB1 := Aside0.mk hb1
  have HS := Aside0.mk hs
  have HR := Aside0.mk hr
  have HK := Aside0.mk (fun w => kind_calls r.held w)
  have HDe := Aside0.mk (fun w => decode_calls q w (by omega))
  clear hb0 hb1 hs hr hB hok h1 h2 hp hqe HQ hq hqs
  by_cases hz : q.toList.isEmpty = true
  · rw [if_pos hz]
    go_enter Tryz.func111, Tryz.ntmps111
    go_wp2
    go_quiet (fail)
    go_wp2
    go_end0
    exact ⟨rfl, HI.out.drewN _, pw_below_drewN HB.out _, StKeep.below (pw_below_drewN (Below.refl _ _) _), Keeps.below (pw_below_drewN (Below.refl _ _) _)⟩
  · rw [if_neg hz]
    have hz1 : q.toList.isEmpty = false := by simpa using hz
    clear hz
    unfold textV
    by_cases k3 : kindOf r.held = 3
    · rw [if_pos k3]
      rw [k3] at HK
      clear k3 HDe
      go_enter Tryz.func111, Tryz.ntmps111
      go_wp2
      go_quiet (fail)
      go_wp2_with (first | (go_at_call 167; refine (HK.out _).mono ?_; rintro e w1 ⟨rfl, ⟨m, rfl⟩⟩) | ((at_builtin; have hW := (pw_below_drewN (Below.refl w.heap.size w) (nq + m)); refine Kd.S_append k41 (w0 := w0) w0.heap.size rfl (.tmp 35) (.tmp 38) 22 41 (.agg #[(.int .i64 0), (.string ⟨#[]⟩), (.string ⟨#[]⟩), (.slice none 0 0), (.bool false)]) 72 rfl Tryz.underlying22 infoTok rfl (by decide) (by decide) (.slice A0 r.out.length c0) r.out ⟨0, ⟨#[]⟩, q, [], false⟩ [.int .i64 0, .string ⟨#[]⟩, .string q, .slice none 0 0, .bool false] (fun k => ok k ∧ some k ≠ (Value.slice A1 r.ats.length c1).ownBlock) (fun _ => False) rfl rfl (k41_mkM _ _ _ (⟨0, ⟨#[]⟩, q, [], false⟩ : S41) (Kd.R_nil _ _ _ _ _)) (fun q hq => hq.elim) (fun k hk => ⟨HOK.out k (Nat.le_trans hW.size hk), HNV.out k (Nat.le_trans hW.size hk)⟩) (Kd.S_mono (Kd.S_below HS.out hW) (fun _ h => ⟨h, fun h => h⟩)) (HB.out.trans (hW.mono HB.out.size)) (HB.out.trans (hW.mono HB.out.size)).size (by omega) ?_; intro v9 w9 hS9 hB9 hgr hat; obtain ⟨A9, c9, e9⟩ := Kd.S_slice hS9; rw [List.length_append, List.length_singleton] at e9; subst e9; have b9 := blk_grown (blk_below HB1.out hW) hgr (Kd.S_ne (Kd.S_below HS.out hW) (blk_below HB1.out hW) (by decide)); have c9' : w9.cell? ⟨b, 1, none⟩ = some (.slice A0 r.out.length c0) := (blk_cell b9 1).trans rfl; have f9 : w9.frozen? ⟨b, 1, none⟩ = false := blk_frozen b9 1; have HE := Aside0.mk (text_end (t := ⟨0, ⟨#[]⟩, q, [], false⟩) HB0.out (blk_below HB1.out hW) (Kd.S_below HS.out hW) (Kd.R_below HR.out hW) hW HB.out hS9 hB9 hgr); clear b9 hS9 hB9 hgr hat hW)))
      go_end0
      exact HE.out
    · have n3 : (kindOf r.held != 3) = true := by simpa using k3
      rw [if_neg k3]
      by_cases k4 : kindOf r.held = 4
      · rw [if_pos k4]
        rw [k4] at HK
        clear k3 k4 n3 HDe
        go_enter Tryz.func111, Tryz.ntmps111
        go_wp2
        go_quiet (fail)
        go_wp2_with (first | (go_at_call 167; refine (HK.out _).mono ?_; rintro e w1 ⟨rfl, ⟨m, rfl⟩⟩) | ((at_builtin; have hW := (pw_below_drewN (Below.refl w.heap.size w) (nq + m)); refine Kd.S_append k41 (w0 := w0) w0.heap.size rfl (.tmp 35) (.tmp 38) 22 41 (.agg #[(.int .i64 0), (.string ⟨#[]⟩), (.string ⟨#[]⟩), (.slice none 0 0), (.bool false)]) 72 rfl Tryz.underlying22 infoTok rfl (by decide) (by decide) (.slice A0 r.out.length c0) r.out ⟨0, ⟨#[]⟩, q, [], false⟩ [.int .i64 0, .string ⟨#[]⟩, .string q, .slice none 0 0, .bool false] (fun k => ok k ∧ some k ≠ (Value.slice A1 r.ats.length c1).ownBlock) (fun _ => False) rfl rfl (k41_mkM _ _ _ (⟨0, ⟨#[]⟩, q, [], false⟩ : S41) (Kd.R_nil _ _ _ _ _)) (fun q hq => hq.elim) (fun k hk => ⟨HOK.out k (Nat.le_trans hW.size hk), HNV.out k (Nat.le_trans hW.size hk)⟩) (Kd.S_mono (Kd.S_below HS.out hW) (fun _ h => ⟨h, fun h => h⟩)) (HB.out.trans (hW.mono HB.out.size)) (HB.out.trans (hW.mono HB.out.size)).size (by omega) ?_; intro v9 w9 hS9 hB9 hgr hat; obtain ⟨A9, c9, e9⟩ := Kd.S_slice hS9; rw [List.length_append, List.length_singleton] at e9; subst e9; have b9 := blk_grown (blk_below HB1.out hW) hgr (Kd.S_ne (Kd.S_below HS.out hW) (blk_below HB1.out hW) (by decide)); have c9' : w9.cell? ⟨b, 1, none⟩ = some (.slice A0 r.out.length c0) := (blk_cell b9 1).trans rfl; have f9 : w9.frozen? ⟨b, 1, none⟩ = false := blk_frozen b9 1; have HE := Aside0.mk (text_end (t := ⟨0, ⟨#[]⟩, q, [], false⟩) HB0.out (blk_below HB1.out hW) (Kd.S_below HS.out hW) (Kd.R_below HR.out hW) hW HB.out hS9 hB9 hgr); clear b9 hS9 hB9 hgr hat hW)))
        go_end0
        exact HE.out
      · have n4 : (kindOf r.held != 4) = true := by simpa using k4
        rw [if_neg k4]
        have HDS := Aside0.mk (show (⟨(decL q.data.toList).toArray⟩ : ByteArray) = decS q from rfl)
        clear k3 k4
        go_enter Tryz.func111, Tryz.ntmps111
        go_wp2
        go_quiet (fail)
        go_wp2_with (first | (go_at_call 167; refine (HK.out _).mono ?_; rintro e w1 ⟨rfl, ⟨m, rfl⟩⟩) | (go_at_call 168; (refine (HDe.out _).mono ?_; rintro e w2 ⟨rfl, hb2⟩; rw [HDS.out]; have HB2 := Aside0.mk ((pw_below_drewN (Below.refl w.heap.size w) (nq + m)).trans (hb2.mono (Nat.le_refl _))); clear hb2; have x1 := pw_cell_below HB2.out x1)) | ((at_builtin; have hW := HB2.out; refine Kd.S_append k41 (w0 := w0) w0.heap.size rfl (.tmp 35) (.tmp 38) 22 41 (.agg #[(.int .i64 0), (.string ⟨#[]⟩), (.string ⟨#[]⟩), (.slice none 0 0), (.bool false)]) 72 rfl Tryz.underlying22 infoTok rfl (by decide) (by decide) (.slice A0 r.out.length c0) r.out ⟨0, ⟨#[]⟩, (decS q), [], false⟩ [.int .i64 0, .string ⟨#[]⟩, .string (decS q), .slice none 0 0, .bool false] (fun k => ok k ∧ some k ≠ (Value.slice A1 r.ats.length c1).ownBlock) (fun _ => False) rfl rfl (k41_mkM _ _ _ (⟨0, ⟨#[]⟩, (decS q), [], false⟩ : S41) (Kd.R_nil _ _ _ _ _)) (fun q hq => hq.elim) (fun k hk => ⟨HOK.out k (Nat.le_trans hW.size hk), HNV.out k (Nat.le_trans hW.size hk)⟩) (Kd.S_mono (Kd.S_below HS.out hW) (fun _ h => ⟨h, fun h => h⟩)) (HB.out.trans (hW.mono HB.out.size)) (HB.out.trans (hW.mono HB.out.size)).size (by omega) ?_; intro v9 w9 hS9 hB9 hgr hat; obtain ⟨A9, c9, e9⟩ := Kd.S_slice hS9; rw [List.length_append, List.length_singleton] at e9; subst e9; have b9 := blk_grown (blk_below HB1.out hW) hgr (Kd.S_ne (Kd.S_below HS.out hW) (blk_below HB1.out hW) (by decide)); have c9' : w9.cell? ⟨b, 1, none⟩ = some (.slice A0 r.out.length c0) := (blk_cell b9 1).trans rfl; have f9 : w9.frozen? ⟨b, 1, none⟩ = false := blk_frozen b9 1; have HE := Aside0.mk (text_end (t := ⟨0, ⟨#[]⟩, (decS q), [], false⟩) HB0.out (blk_below HB1.out hW) (Kd.S_below HS.out hW) (Kd.R_below HR.out hW) hW HB.out hS9 hB9 hgr); clear b9 hS9 hB9 hgr hat hW)))
        go_end0
        exact HE.out
end Go.Proofs.YtfmcdlbbbmeolaaGreatDoor.Tk
end
