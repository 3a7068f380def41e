/- UtfSigns: each sign that there is may be, alone and between others; cut, or with one byte more, it may not: the plain law, of every int. -/
import Derived.Test.YtnhhbfanpnpgdaaDoorXU5
import Derived.Test.YtnhhbfanpnpgdaaDoorPureUtfs
import Derived.Test.YtnhhbfanpnpgdaaDoorUtfMore2
namespace Go.Proofs.YtnhhbfanpnpgdaaDoor.Pure
open Go.RowKit Go.Proofs.YtnhhbfanpnpgdaaDoor.XU Go.Proofs.YtnhhbfanpnpgdaaDoorW.PrintWords Go.Proofs.YtnhhbfanpnpgdaaDoorW.PrintLast Go.Proofs.YtnhhbfanpnpgdaaDoor.Base Go.Proofs.YtnhhbfanpnpgdaaDoor.Ext Go.Proofs.YtnhhbfanpnpgdaaDoor.Utf

theorem sgn_list (b : UInt8) (l : List UInt8) : signL (b :: l) = sgnN (l.length + 1) b.toNat (bAt l 0) (bAt l 1) (bAt l 2) := by
  unfold signL
  rw [if_neg (by simp)]
  rfl
theorem norm_one (b : UInt8) (h0 : b.toNat ≠ 0) (h1 : b.toNat < 128) : normL [b] = [b] := by
  have h : signL [b] = 1 := by rw [sgn_list]; unfold sgnN; rw [if_neg h0, if_pos h1]
  rw [norm_sign b [] (by omega), h]; rfl
theorem norm_whole (l : List UInt8) (h : signL l = l.length) (h0 : l ≠ []) : normL l = l := by
  cases l with
  | nil => exact absurd rfl h0
  | cons b l =>
    rw [norm_sign b l (by rw [h]; simp), h, List.take_length, List.drop_length, norm_nil, List.append_nil]
/-- What one asks of a whole sign: l its bytes. -/
structure Whole (l : List UInt8) : Prop where
  sign : signL l = l.length
  ne : l ≠ []
  size : l.length ≤ 4
  cut : (normL (l.take (l.length - 1)) == l.take (l.length - 1)) = decide ((l.length : Int) = 1)
  more : (normL (l.take (l.length - 1) ++ [122])).length = 3 * (l.length - 1) + 1

theorem wrap3 (j : Nat) (h : j ≤ 3) : ((3 * j + 1 : Nat) : Int) = wrap64 (wrap64 (3 * (j : Int)) + 1) := by unfold wrap64; omega
theorem nums_len (l : List UInt8) : (nums l).length = l.length := by unfold nums; rw [List.length_map]

theorem signs_j1 (l : List UInt8) (h : Whole l) : Ev (fun k => stolelaw1_UtfSigns.j1 k (nums l)) true := by
  obtain ⟨hs, hne, h4, hcut, hmore⟩ := h
  have hpos : 1 ≤ l.length := by cases l with | nil => exact absurd rfl hne | cons b l => simp
  refine Ev.step (f := fun k => _) (fun k => by rw [stolelaw1_UtfSigns.j1]) ?_
  rw [nums_len]
  have hstr : strOfNums (nums l) = ⟨l.toArray⟩ := strOfNums_bytes l
  rw [hstr]
  generalize hx : (⟨l.toArray⟩ : ByteArray) = x
  have hxl : x.data.toList = l := by rw [← hx]
  have hxs : x.size = l.length := by rw [← data_length, hxl]
  have hw : wrap64 ((x.size : Int) - 1) = ((l.length - 1 : Nat) : Int) := by rw [hxs]; unfold wrap64; omega
  rw [hw, Int.toNat_natCast]
  have hcl : (x.extract 0 (l.length - 1)).data.toList = l.take (l.length - 1) := by rw [Lib.extract_data, hxl]; simp
  have hcs : (x.extract 0 (l.length - 1)).size = l.length - 1 := by rw [← data_length, hcl, List.length_take]; omega
  have hnl := norm_whole l hs hne
  have hnx : normS x = x := ext_list (by show normL _ = _; rw [hxl, hnl])
  have ha : ∀ (a b : ByteArray), (a ++ b).size = a.size + b.size := size_append
  have s1 : (⟨#[97]⟩ : ByteArray).size = 1 := rfl
  have s2 : (⟨#[98]⟩ : ByteArray).size = 1 := rfl
  have s3 : (⟨#[128]⟩ : ByteArray).size = 1 := rfl
  have s4 : (⟨#[122]⟩ : ByteArray).size = 1 := rfl
  have z1 := ha (⟨#[97]⟩ : ByteArray) x
  have z2 := ha ((⟨#[97]⟩ : ByteArray) ++ x) (⟨#[98]⟩ : ByteArray)
  have z3 := ha x (⟨#[128]⟩ : ByteArray)
  have z4 := ha (x.extract 0 (l.length - 1)) (⟨#[122]⟩ : ByteArray)
  have n97 : normL [97] = [97] := norm_one 97 (by decide) (by decide)
  have n98 : normL [98] = [98] := norm_one 98 (by decide) (by decide)
  have n128 : normL [128] = bad := by
    have h : signL [128] = 0 := by decide +kernel
    rw [norm_bad 128 [] h]; rfl
  have hmid : normL (([97] ++ l) ++ [98]) = ([97] ++ l) ++ [98] := by
    have e1 := norm_append [97] (l ++ [98])
    have e2 := norm_append l [98]
    rw [n97] at e1
    rw [hnl, n98] at e2
    rw [List.append_assoc, e1, e2]
  have hlong : normL (l ++ [128]) = l ++ bad := by
    have e2 := norm_append l [128]
    rw [hnl, n128] at e2
    exact e2
  have m1 : utf_May.f x = some true := by rw [may_ok x (by omega), hxl, hnl, beq_self_eq_true]
  have m2 : utf_May.f (((⟨#[97]⟩ : ByteArray) ++ x) ++ (⟨#[98]⟩ : ByteArray)) = some true := by
    rw [may_ok _ (by omega), data_append, data_append, hxl]
    show some (normL (([97] ++ l) ++ [98]) == (([97] ++ l) ++ [98])) = _
    rw [hmid, beq_self_eq_true]
  have m3 : utf_May.f (x ++ (⟨#[128]⟩ : ByteArray)) = some false := by
    rw [may_ok _ (by omega), data_append, hxl]
    show some (normL (l ++ [128]) == (l ++ [128])) = _
    rw [hlong, beq_eq_false_iff_ne.mpr]
    intro e
    have := List.append_cancel_left e
    simp [bad] at this
  have m4 : utf_Norm.f (x ++ (⟨#[128]⟩ : ByteArray)) = some (normS (x ++ (⟨#[128]⟩ : ByteArray))) := norm_ok _ (by omega)
  have m5 : utf_May.f (x.extract 0 (l.length - 1)) = some (decide ((l.length : Int) = 1)) := by rw [may_ok _ (by omega), hcl, hcut]
  have m6 : utf_Norm.f (x.extract 0 (l.length - 1) ++ (⟨#[122]⟩ : ByteArray)) = some (normS (x.extract 0 (l.length - 1) ++ (⟨#[122]⟩ : ByteArray))) := norm_ok _ (by omega)
  refine Ev.pos (by omega) (Ev.pos (by omega) (Ev.pos (by omega) (Ev.bindC m1 (Ev.pos rfl (Ev.pos (by omega) (Ev.pos (by omega) (Ev.bindC m2 (Ev.pos rfl (Ev.bindC (norm_ok x (by omega)) ?_)))))))))
  rw [hnx]
  refine Ev.pos rfl (Ev.bindC m3 (Ev.neg (by decide) (Ev.bindC m4 (Ev.pos (by omega) (Ev.pos ?_ (Ev.bindC m5 (Ev.pos ?_ (Ev.pos (by omega) (Ev.bindC m6 (Ev.pos ?_ (Ev.bindC (s := 0) rfl (Ev.now _))))))))))))
  · rw [list_eq, list_eq]
    show normL (x ++ (⟨#[128]⟩ : ByteArray)).data.toList = _
    rw [data_append, data_append, hxl]
    exact hlong
  · rw [beq_iff_eq, Bool.eq_iff_iff, decide_eq_true_iff, beq_iff_eq]
  · have : (normS (x.extract 0 (l.length - 1) ++ (⟨#[122]⟩ : ByteArray))).size = 3 * (l.length - 1) + 1 := by
      rw [← hmore, ← data_length]
      show (normL (x.extract 0 (l.length - 1) ++ (⟨#[122]⟩ : ByteArray)).data.toList).length = _
      rw [data_append, hcl]
    rw [this, hcs]
    exact wrap3 _ (by omega)

theorem or240 : ∀ n : Nat, n < 8 → Go.bits .or .i64 240 (n : Int) = ((240 + n : Nat) : Int) := by decide +kernel
theorem or224 : ∀ n : Nat, n < 16 → Go.bits .or .i64 224 (n : Int) = ((224 + n : Nat) : Int) := by decide +kernel
theorem or192 : ∀ n : Nat, n < 32 → Go.bits .or .i64 192 (n : Int) = ((192 + n : Nat) : Int) := by decide +kernel
theorem or128 : ∀ n : Nat, n < 64 → Go.bits .or .i64 128 (n : Int) = ((128 + n : Nat) : Int) := by decide +kernel
theorem and63 (n : Nat) : Go.bits .and .i64 (n : Int) 63 = ((n % 64 : Nat) : Int) := by
  have := and_mask (n : Int) 6 (by decide)
  exact this
theorem ofNat_nat (n : Nat) (h : n < 256) : (UInt8.ofNat n).toNat = n := by rw [UInt8.toNat_ofNat', Nat.mod_eq_of_lt (by simpa using h)]

/-- A byte that continues, ahead of what isn't a whole sign's rest. -/
theorem bad_cont (b : UInt8) (l : List UInt8) (h1 : 128 ≤ b.toNat) (h2 : b.toNat < 194) : signL (b :: l) = 0 := by
  rw [sgn_list]; unfold sgnN
  rw [if_neg (by omega), if_neg (by omega), if_neg (by omega), if_neg (by omega), if_neg (by omega)]
theorem n122 : normL [122] = [122] := norm_one 122 (by decide) (by decide)
theorem bad3 : bad.length = 3 := rfl

theorem whole1 (a : UInt8) (h0 : a.toNat ≠ 0) (h1 : a.toNat < 128) : Whole [a] :=
  ⟨by rw [sgn_list]; unfold sgnN; rw [if_neg h0, if_pos h1]; rfl, by simp, by simp, by rfl, by show (normL [122]).length = 1; rw [n122]; rfl⟩
theorem whole2 (a b : UInt8) (ha : 194 ≤ a.toNat ∧ a.toNat ≤ 223) (hb : 128 ≤ b.toNat ∧ b.toNat ≤ 191) : Whole [a, b] := by
  have e : ∀ l : List UInt8, (l.length + 1 < 2 ∨ bAt l 0 < 128) → signL (a :: l) = 0 := by
    intro l hl
    rw [sgn_list]; unfold sgnN
    rw [if_neg (by omega), if_neg (by omega), if_pos ha, if_neg (by omega)]
  refine ⟨?_, by simp, by simp, ?_, ?_⟩
  · rw [sgn_list]; unfold sgnN
    rw [if_neg (by omega), if_neg (by omega), if_pos ha]
    exact if_pos ⟨Nat.le_refl 2, hb.1, hb.2⟩
  · show (normL [a] == [a]) = _
    rw [norm_bad a [] (e [] (by simp)), norm_nil]
    simp [bad]
  · show (normL [a, 122]).length = 4
    rw [norm_bad a [122] (e [122] (by right; decide)), n122]; rfl
theorem whole3 (a b c : UInt8) (ha : 224 ≤ a.toNat ∧ a.toNat ≤ 239) (hb : 128 ≤ b.toNat ∧ b.toNat ≤ 191) (hc : 128 ≤ c.toNat ∧ c.toNat ≤ 191) (h1 : ¬ (a.toNat = 224 ∧ b.toNat < 160)) (h2 : ¬ (a.toNat = 237 ∧ b.toNat > 159)) : Whole [a, b, c] := by
  have e : ∀ l : List UInt8, (l.length + 1 < 3 ∨ bAt l 1 < 128) → signL (a :: l) = 0 := by
    intro l hl
    rw [sgn_list]; unfold sgnN
    rw [if_neg (by omega), if_neg (by omega), if_neg (by omega), if_pos ha, if_neg (by omega)]
  refine ⟨?_, by simp, by simp, ?_, ?_⟩
  · rw [sgn_list]; unfold sgnN
    rw [if_neg (by omega), if_neg (by omega), if_neg (by omega), if_pos ha]
    exact if_pos ⟨Nat.le_refl 3, hb.1, hb.2, hc.1, hc.2, h1, h2⟩
  · show (normL [a, b] == [a, b]) = _
    rw [norm_bad a [b] (e [b] (by left; simp)), norm_bad b [] (bad_cont b [] hb.1 (by omega)), norm_nil]
    have : ¬ (bad ++ (bad ++ []) = [a, b]) := fun h => by have := congrArg List.length h; simp [bad] at this
    rw [beq_eq_false_iff_ne.mpr this]; rfl
  · show (normL [a, b, 122]).length = 7
    rw [norm_bad a [b, 122] (e [b, 122] (.inr (show (122 : Nat) < 128 by decide))), norm_bad b [122] (bad_cont b _ hb.1 (by omega)), n122]; rfl
theorem whole4 (a b c d : UInt8) (ha : 240 ≤ a.toNat ∧ a.toNat ≤ 244) (hb : 128 ≤ b.toNat ∧ b.toNat ≤ 191) (hc : 128 ≤ c.toNat ∧ c.toNat ≤ 191) (hd : 128 ≤ d.toNat ∧ d.toNat ≤ 191) (h1 : ¬ (a.toNat = 240 ∧ b.toNat < 144)) (h2 : ¬ (a.toNat = 244 ∧ b.toNat > 143)) : Whole [a, b, c, d] := by
  have e : ∀ l : List UInt8, (l.length + 1 < 4 ∨ bAt l 2 < 128) → signL (a :: l) = 0 := by
    intro l hl
    rw [sgn_list]; unfold sgnN
    rw [if_neg (by omega), if_neg (by omega), if_neg (by omega), if_neg (by omega), if_pos ha, if_neg (by omega)]
  refine ⟨?_, by simp, by simp, ?_, ?_⟩
  · rw [sgn_list]; unfold sgnN
    rw [if_neg (by omega), if_neg (by omega), if_neg (by omega), if_neg (by omega), if_pos ha]
    exact if_pos ⟨Nat.le_refl 4, hb.1, hb.2, hc.1, hc.2, hd.1, hd.2, h1, h2⟩
  · show (normL [a, b, c] == [a, b, c]) = _
    rw [norm_bad a _ (e [b, c] (by left; simp)), norm_bad b _ (bad_cont b _ hb.1 (by omega)), norm_bad c _ (bad_cont c _ hc.1 (by omega)), norm_nil]
    have : ¬ (bad ++ (bad ++ (bad ++ [])) = [a, b, c]) := fun h => by have := congrArg List.length h; simp [bad] at this
    rw [beq_eq_false_iff_ne.mpr this]; rfl
  · show (normL [a, b, c, 122]).length = 10
    rw [norm_bad a _ (e [b, c, 122] (.inr (show (122 : Nat) < 128 by decide))), norm_bad b _ (bad_cont b _ hb.1 (by omega)), norm_bad c _ (bad_cont c _ hc.1 (by omega)), n122]; rfl

theorem signs_j0 (n : Nat) (h1 : 1 ≤ n) (h2 : n ≤ 1048576) (b : Bool) (hb : b = true ∨ ¬ (55296 ≤ n ∧ n ≤ 57343)) : Ev (fun k => stolelaw1_UtfSigns.j0 k (n : Int) b) true := by
  refine Ev.step (f := fun k => _) (fun k => by rw [stolelaw1_UtfSigns.j0]) ?_
  by_cases hbt : b = true
  · exact Ev.pos hbt (Ev.now true)
  refine Ev.neg hbt ?_
  have hn : ¬ (55296 ≤ n ∧ n ≤ 57343) := hb.resolve_left hbt
  have d1 : (n : Int) / 64 = ((n / 64 : Nat) : Int) := by omega
  have d2 : (n : Int) / 4096 = ((n / 4096 : Nat) : Int) := by omega
  have d3 : (n : Int) / 262144 = ((n / 262144 : Nat) : Int) := by omega
  rw [d1, d2, d3, and63, and63, and63]
  have m : ∀ x : Nat, x < 256 → (x : Int) % 256 = (((UInt8.ofNat x).toNat : Nat) : Int) := fun x hx => by rw [ofNat_nat x hx]; omega
  by_cases g3 : 65536 ≤ n
  · refine Ev.pos (by omega) ?_
    rw [or240 _ (by omega), or128 _ (by omega), or128 _ (by omega), or128 _ (by omega), m _ (by omega), m _ (by omega), m _ (by omega), m _ (by omega)]
    refine signs_j1 [UInt8.ofNat (240 + n / 262144), UInt8.ofNat (128 + n / 4096 % 64), UInt8.ofNat (128 + n / 64 % 64), UInt8.ofNat (128 + n % 64)] (whole4 _ _ _ _ ?_ ?_ ?_ ?_ ?_ ?_)
    all_goals first | (rw [ofNat_nat _ (by omega)]; omega) | (rw [ofNat_nat _ (by omega), ofNat_nat _ (by omega)]; omega)
  refine Ev.neg (by omega) ?_
  by_cases g2 : 2048 ≤ n
  · refine Ev.pos (by omega) ?_
    rw [or224 _ (by omega), or128 _ (by omega), or128 _ (by omega), m _ (by omega), m _ (by omega), m _ (by omega)]
    refine signs_j1 [UInt8.ofNat (224 + n / 4096), UInt8.ofNat (128 + n / 64 % 64), UInt8.ofNat (128 + n % 64)] (whole3 _ _ _ ?_ ?_ ?_ ?_ ?_)
    all_goals first | (rw [ofNat_nat _ (by omega)]; omega) | (rw [ofNat_nat _ (by omega), ofNat_nat _ (by omega)]; omega)
  refine Ev.neg (by omega) ?_
  by_cases g1 : 128 ≤ n
  · refine Ev.pos (by omega) ?_
    rw [or192 _ (by omega), or128 _ (by omega), m _ (by omega), m _ (by omega)]
    refine signs_j1 [UInt8.ofNat (192 + n / 64), UInt8.ofNat (128 + n % 64)] (whole2 _ _ ?_ ?_)
    all_goals (rw [ofNat_nat _ (by omega)]; omega)
  refine Ev.neg (by omega) ?_
  rw [m _ (by omega)]
  refine signs_j1 [UInt8.ofNat n] (whole1 _ ?_ ?_)
  all_goals (rw [ofNat_nat _ (by omega)]; omega)

theorem UtfSigns (x : Int) (_ : (Lit.int .i64 x).wf = true) : ∃ k, stolelaw1_UtfSigns.f k x = some true := by
  refine Ev.rounds ?_
  unfold stolelaw1_UtfSigns.f
  have hm : Go.bits .and .i64 x 1048575 = x % 1048576 := and_mask x 20 (by decide)
  rw [hm]
  obtain ⟨n, hn, hlt⟩ : ∃ n : Nat, wrap64 (1 + x % 1048576) = (n : Int) ∧ (1 ≤ n ∧ n ≤ 1048576) := ⟨(1 + x % 1048576).toNat, by unfold wrap64; omega, by omega⟩
  rw [hn]
  refine Ev.bindC awake1 (Ev.pos rfl ?_)
  by_cases h : 55296 ≤ n
  · refine Ev.pos (by omega) (signs_j0 n hlt.1 hlt.2 _ ?_)
    rw [decide_eq_true_iff]; omega
  · exact Ev.neg (by omega) (signs_j0 n hlt.1 hlt.2 _ (by omega))
end Go.Proofs.YtnhhbfanpnpgdaaDoor.Pure
