/- url.of: a set of signs, walked. -/
import Derived.Test.YtfncppekjgbedaaGreatDoorSet
import Derived.Test.YtfncppekjgbedaaGreatDoorShelf
import Derived.Deep.DeepCutAuto
namespace Go.Proofs.YtfncppekjgbedaaGreatDoor.Sync
open Go.RowKit Go.Lib Go.Proofs.YtfncppekjgbedaaGreatDoor.Base Go.Proofs.YtfncppekjgbedaaGreatDoorW.PrintWords Go.Proofs.YtfncppekjgbedaaGreatDoorW.PrintLast Go.Proofs.YtfncppekjgbedaaGreatDoorW.PrintMore
attribute [local go_sem ↓] Go.wp_at_zero Go.wp_at_succ
set_option linter.unusedVariables false
set_option linter.unusedSimpArgs false

def inB (l : List UInt8) (c : Nat) : Bool := letN c || digN c || decide (0 ≤ Lib.indexByte l c.toUInt8)
theorem and63 : ∀ k : Fin 128, Go.bits .and .u8 (k.val : Int) 63 = ((k.val % 64 : Nat) : Int) := by decide +kernel
def zz (k : Nat) : Int := IntKind.u64.wrap (1 * 2 ^ min ((k % 64 : Nat) : Int).toNat IntKind.u64.bits)
theorem shl63 (k : Nat) (h : k < 128) : Op.shift .shl .u64 1 .u8 (Go.bits .and .u8 (k : Int) 63) = pure (.int .u64 (zz k)) := by
  have := and63 ⟨k, h⟩
  simp only at this
  rw [this, shift_shl_any _ _ _ _ (Int.natCast_nonneg _)]; rfl
def ofF (l : List UInt8) : Nat → Int × Int
  | 0 => (0, 0)
  | k + 1 => if inB l k = true then (if k < 64 then (Go.bits .or .u64 (ofF l k).1 (zz k), (ofF l k).2) else ((ofF l k).1, Go.bits .or .u64 (ofF l k).2 (zz k))) else ofF l k
/-- The set at block b. -/
def SetAt (l : List UInt8) (k b : Nat) (w : World) : Prop := w.heap[b]? = some (.cells #[.int .u64 (ofF l k).1, .int .u64 (ofF l k).2] 40 (0, 0))
theorem set_next {l : List UInt8} {k b : Nat} {w : World} {nx : Int} (h : SetAt l k b w) (hq : inB l k = true) (hk : k < 128) (hx : (if k < 64 then (ofF l k).1 else (ofF l k).2) = nx) :
    SetAt l (k + 1) b ((w.setCell ⟨b, k / 64, none⟩ (.int .u64 (Go.bits .or .u64 nx (zz k)))).drew) := by
  unfold SetAt at h ⊢
  rw [ofF, if_pos hq]
  have h2 := Go.Joins.block_setCell (i := k / 64) h (.int .u64 (Go.bits .or .u64 nx (zz k)))
  by_cases h6 : k < 64
  · rw [if_pos h6] at hx ⊢
    rw [show k / 64 = 0 by omega] at h2 ⊢
    rw [hx]
    exact h2
  · rw [if_neg h6] at hx ⊢
    rw [show k / 64 = 1 by omega] at h2 ⊢
    rw [hx]
    exact h2
set_option maxRecDepth 100000 in
set_option maxHeartbeats 3200000 in
theorem of_calls (s : ByteArray) (w : World) : Calls Tryz.prog 13 #[.string s] w fun e w' => ∃ b, e = .returned (.pointer (some ⟨b, 0, none⟩)) ∧ SetAt s.data.toList 128 b w' ∧ Below w.heap.size w w' := by
  go_enter Tryz.func13, Tryz.ntmps13
  go_wp2
  obtain ⟨b, hb⟩ : ∃ b, w.heap.size = b := ⟨_, rfl⟩
  have HB0 := Aside0.mk (Nat.le_of_eq hb)
  have HBK := Aside0.mk (heap_alloc_new w (.cells #[.int .u64 0, .int .u64 0] 40))
  have HB := Aside0.mk (below_alloc (Below.refl w.heap.size w) (.cells #[.int .u64 0, .int .u64 0] 40))
  rw [hb] at HBK ⊢
  go_loopg [7] 128 (fun gg v7 wr => ∃ k : Nat, k ≤ 128 ∧ Aside0 (gg = 128 - k) ∧ v7 = .int .u8 k ∧ Aside0 (SetAt s.data.toList k b wr) ∧ Aside0 (Below w.heap.size w wr))
  case atStart => exact ⟨0, by omega, ⟨rfl⟩, rfl, ⟨HBK.out⟩, HB⟩
  case round =>
    clear HBK HB
    obtain ⟨k, hk, HK, rfl, HSA, HB⟩ := hrel
    obtain ⟨x0, hx0⟩ : ∃ x0, (ofF s.data.toList k).1 = x0 := ⟨_, rfl⟩
    obtain ⟨x1, hx1⟩ : ∃ x1, (ofF s.data.toList k).2 = x1 := ⟨_, rfl⟩
    have HX := Aside0.mk (And.intro hx0 hx1)
    have HBK := Aside0.mk (show wr.heap[b]? = some (.cells #[.int .u64 x0, .int .u64 x1] 40 (0, 0)) by rw [← hx0, ← hx1]; exact HSA.out)
    clear hx0 hx1
    have HLt := Aside0.mk (fun w => letter_calls k w)
    have HDg := Aside0.mk (fun w => digit_calls k w)
    have HIx := Aside0.mk (fun w => Tryz.strings_IndexByte s (k : Int) w)
    by_cases hlt : k < 128
    · have hz : decide ((k : Int) < 128) = true := decide_eq_true (by omega)
      have hcell : wr.cell? ⟨b, k / 64, none⟩ = some (.int .u64 (if k < 64 then x0 else x1)) := by
        by_cases h6 : k < 64
        · rw [if_pos h6, show k / 64 = 0 by omega]; exact (blk_cell HBK.out 0).trans rfl
        · rw [if_neg h6, show k / 64 = 1 by omega]; exact (blk_cell HBK.out 1).trans rfl
      obtain ⟨nx, hnx⟩ : ∃ nx, (if k < 64 then x0 else x1) = nx := ⟨_, rfl⟩
      rw [hnx] at hcell
      have hfz := blk_frozen HBK.out (k / 64)
      have HNX := Aside0.mk hnx
      obtain ⟨q, hq⟩ : ∃ q, inB s.data.toList k = q := ⟨_, rfl⟩
      have HQ := Aside0.mk hq
      unfold inB at hq
      have HQ2 := Aside0.mk hq
      clear hb hnx hq
      go_upto_region 5 with (fail)
      go_cut [21] (fun v21 wc => v21 = .bool q ∧ wr = wc)
      case first =>
        by_cases h1 : letN k = true
        · have hq : q = true := by rw [← HQ2.out, h1]; rfl
          rw [h1] at HLt
          subst hq
          clear h1 hcell hfz
          go_wp2_with (go_at_call 12; refine (HLt.out _).mono ?_; rintro e w2 ⟨rfl, rfl⟩)
          go_meet
          exact ⟨rfl, rfl⟩
        · have h1 : letN k = false := by simpa using h1
          rw [h1] at HLt
          by_cases h2 : digN k = true
          · have hq : q = true := by rw [← HQ2.out, h1, h2]; rfl
            rw [h2] at HDg
            subst hq
            clear h1 h2 hcell hfz
            go_wp2_with (first
              | (go_at_call 12; refine (HLt.out _).mono ?_; rintro e w2 ⟨rfl, rfl⟩)
              | (go_at_call 29; refine (HDg.out _).mono ?_; rintro e w2 ⟨rfl, rfl⟩))
            go_meet
            exact ⟨rfl, rfl⟩
          · have h2 : digN k = false := by simpa using h2
            rw [h2] at HDg
            have hq : q = decide (0 ≤ Lib.indexByte s.data.toList k.toUInt8) := by rw [← HQ2.out, h1, h2]; rfl
            have hk2 : ((k : Int)).toNat.toUInt8 = k.toUInt8 := by rw [Int.toNat_natCast]
            obtain ⟨ix, hix⟩ : ∃ ix, Lib.indexByte s.data.toList k.toUInt8 = ix := ⟨_, rfl⟩
            rw [hix] at hq
            rw [hk2, hix] at HIx
            have HQ3 := Aside0.mk hq
            clear h1 h2 hq hix hk2 hcell hfz
            go_wp2_with (first
              | (go_at_call 12; refine (HLt.out _).mono ?_; rintro e w2 ⟨rfl, rfl⟩)
              | (go_at_call 29; refine (HDg.out _).mono ?_; rintro e w2 ⟨rfl, rfl⟩)
              | (go_at_call 30; refine (HIx.out _).mono ?_; rintro e w2 ⟨rfl, rfl⟩))
            go_meet
            exact ⟨by rw [HQ3.out], rfl⟩
      case rest =>
        obtain ⟨rfl, rfl⟩ := hcut
        cases q with
        | false =>
          go_wp2
          go_roundg (128 - (k + 1))
          case rel => exact ⟨k + 1, by omega, ⟨rfl⟩, by first | rfl | go_num, ⟨by unfold SetAt; rw [ofF, if_neg (by rw [HQ.out]; decide)]; exact HSA.out⟩, HB⟩
          case measure => have := HK.out; omega
        | true =>
          have q0 : (0 ≤ (k : Int) / 64) = True := eq_true (by omega)
          have q1 : ((k : Int) / 64 < 2) = True := eq_true (by omega)
          have q2 : ((k : Int) / 64).toNat = k / 64 := by omega
          have q3 := shl63 k hlt
          go_upto_region 6 with (fail)
          refine start_ (n := 13) (S := fun w' => w'.cell? ⟨b, k / 64, none⟩ = some (.int .u64 nx)) (ds := [12]) #[false, false, false, false, false, false, false, false, false, false, false, false, false] (by kernel_rfl) rfl rfl (hcell) (fun hHeld => ?_)
          refine pure_ (i := 0) (N := some 22) (v := ?_) (a' := ?_) #[true, false, false, false, false, false, false, false, false, false, false, false, false] rfl rfl (by kernel_rfl) (fun _ _ _ h => h) (Or.inl ⟨by rfl, ?_⟩) ?_ ?_
          rotate_left
          · intro w'
            go_simp
            with_reducible rfl
          rotate_left
          · simp only [Act.put, List.setIfInBounds_toArray, List.set_cons_zero, List.set_cons_succ, i64_w, i32_w]
            rfl
          refine pure_ (i := 1) (N := some 23) (v := ?_) (a' := ?_) #[true, true, false, false, false, false, false, false, false, false, false, false, false] rfl rfl (by kernel_rfl) (fun _ _ _ h => h) (Or.inl ⟨by rfl, ?_⟩) ?_ ?_
          rotate_left
          · intro w'
            go_simp
            with_reducible rfl
          rotate_left
          · simp only [Act.put, List.setIfInBounds_toArray, List.set_cons_zero, List.set_cons_succ, i64_w, i32_w]
            rfl
          refine pure_ (i := 2) (N := some 24) (v := ?_) (a' := ?_) #[true, true, true, false, false, false, false, false, false, false, false, false, false] rfl rfl (by kernel_rfl) (fun _ _ _ h => h) (Or.inl ⟨by rfl, ?_⟩) ?_ ?_
          rotate_left
          · intro w'
            go_simp
            with_reducible rfl
          rotate_left
          · simp only [Act.put, List.setIfInBounds_toArray, List.set_cons_zero, List.set_cons_succ, i64_w, i32_w]
            rfl
          refine pure_ (i := 3) (N := some 25) (v := ?_) (a' := ?_) #[true, true, true, true, false, false, false, false, false, false, false, false, false] rfl rfl (by kernel_rfl) (fun _ _ _ h => h) (Or.inl ⟨by rfl, ?_⟩) ?_ ?_
          rotate_left
          · intro w'
            go_simp
            with_reducible rfl
          rotate_left
          · simp only [Act.put, List.setIfInBounds_toArray, List.set_cons_zero, List.set_cons_succ, i64_w, i32_w]
            rfl
          refine pure_ (i := 4) (N := some 26) (v := ?_) (a' := ?_) #[true, true, true, true, true, false, false, false, false, false, false, false, false] rfl rfl (by kernel_rfl) (fun _ _ _ h => h) (Or.inl ⟨by rfl, ?_⟩) ?_ ?_
          rotate_left
          · intro w'
            go_simp
            with_reducible rfl
          rotate_left
          · simp only [Act.put, List.setIfInBounds_toArray, List.set_cons_zero, List.set_cons_succ, i64_w, i32_w]
            rfl
          refine pure_ (i := 6) (N := some 28) (v := ?_) (a' := ?_) #[true, true, true, true, true, false, true, false, false, false, false, false, false] rfl rfl (by kernel_rfl) (fun _ _ _ h => h) (Or.inl ⟨by rfl, ?_⟩) ?_ ?_
          rotate_left
          · intro w'
            go_simp
            with_reducible rfl
          rotate_left
          · simp only [Act.put, List.setIfInBounds_toArray, List.set_cons_zero, List.set_cons_succ, i64_w, i32_w]
            rfl
          refine pure_ (i := 7) (N := some 29) (v := ?_) (a' := ?_) #[true, true, true, true, true, false, true, true, false, false, false, false, false] rfl rfl (by kernel_rfl) (fun _ _ _ h => h) (Or.inl ⟨by rfl, ?_⟩) ?_ ?_
          rotate_left
          · intro w'
            go_simp
            with_reducible rfl
          rotate_left
          · simp only [Act.put, List.setIfInBounds_toArray, List.set_cons_zero, List.set_cons_succ, i64_w, i32_w]
            rfl
          refine pure_ (i := 8) (N := some 30) (v := ?_) (a' := ?_) #[true, true, true, true, true, false, true, true, true, false, false, false, false] rfl rfl (by kernel_rfl) (fun _ _ _ h => h) (Or.inl ⟨by rfl, ?_⟩) ?_ ?_
          rotate_left
          · intro w'
            go_simp
            with_reducible rfl
          rotate_left
          · simp only [Act.put, List.setIfInBounds_toArray, List.set_cons_zero, List.set_cons_succ, i64_w, i32_w]
            rfl
          refine pure_ (i := 10) (N := some 32) (v := ?_) (a' := ?_) #[true, true, true, true, true, false, true, true, true, false, true, false, false] rfl rfl (by kernel_rfl) (fun _ _ _ h => h) (Or.inl ⟨by rfl, ?_⟩) ?_ ?_
          rotate_left
          · intro w'
            go_simp
            with_reducible rfl
          rotate_left
          · simp only [Act.put, List.setIfInBounds_toArray, List.set_cons_zero, List.set_cons_succ, i64_w, i32_w]
            rfl
          refine take_ (i := 5) (N := some 27) (v := ?_) (a' := ?_) #[true, true, true, true, true, true, true, true, true, false, true, false, false] rfl rfl (by kernel_rfl) (fun _ _ _ h => h) (Or.inl ⟨by rfl, ?_⟩) hHeld ?_ ?_
          rotate_left
          · intro w' s0
            go_simp
            with_reducible rfl
          rotate_left
          · simp only [Act.put, List.setIfInBounds_toArray, List.set_cons_zero, List.set_cons_succ, i64_w, i32_w]
            rfl
          refine pure_ (i := 9) (N := some 31) (v := ?_) (a' := ?_) #[true, true, true, true, true, true, true, true, true, true, true, false, false] rfl rfl (by kernel_rfl) (fun _ _ _ h => h) (Or.inl ⟨by rfl, ?_⟩) ?_ ?_
          rotate_left
          · intro w'
            go_simp
            with_reducible rfl
          rotate_left
          · simp only [Act.put, List.setIfInBounds_toArray, List.set_cons_zero, List.set_cons_succ, i64_w, i32_w]
            rfl
          refine pure_ (i := 11) (N := some 33) (v := ?_) (a' := ?_) #[true, true, true, true, true, true, true, true, true, true, true, true, false] rfl rfl (by kernel_rfl) (fun _ _ _ h => h) (Or.inl ⟨by rfl, ?_⟩) ?_ ?_
          rotate_left
          · intro w'
            go_simp
            with_reducible rfl
          rotate_left
          · simp only [Act.put, List.setIfInBounds_toArray, List.set_cons_zero, List.set_cons_succ, i64_w, i32_w]
            rfl
          refine last_ (i := 12) (N := none) #[true, true, true, true, true, true, true, true, true, true, true, true, true] rfl rfl (by kernel_rfl) (by decide) (fun K hK => ?_)
          refine skip_ (w1 := ?_) (by rfl) rfl ?_ ?_
          rotate_left
          · go_simp
            rfl
          refine hK.out _ _ ?_
          clear hK K
          refine done_ (by kernel_rfl) ?_
          go_wp2
          go_roundg (128 - (k + 1))
          case rel => exact ⟨k + 1, by omega, ⟨rfl⟩, by first | rfl | go_num, ⟨set_next HSA.out HQ.out hlt (by rw [HX.out.1, HX.out.2]; exact HNX.out)⟩, ⟨below_drew (HB.out.setCell HB0.out _)⟩⟩
          case measure => have := HK.out; omega
    · obtain rfl : k = 128 := by omega
      clear hlt hk hb
      go_wp2
      go_ret
      exact ⟨b, rfl, HSA.out, HB.out⟩
end Go.Proofs.YtfncppekjgbedaaGreatDoor.Sync
