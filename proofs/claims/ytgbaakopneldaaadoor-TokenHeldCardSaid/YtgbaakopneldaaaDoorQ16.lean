/- stolelaw5's quiet, plain. stolelaw5's awake: true. -/
import Derived.Test.YtgbaakopneldaaaDoorQ0
import Derived.Test.YtgbaakopneldaaaDoorQ2
import Derived.Test.YtgbaakopneldaaaDoorQ15
import Derived.Test.YtgbaakopneldaaaDoorQ13
section
namespace Go.Proofs.YtgbaakopneldaaaDoor.P5
open Go.RowKit Go.Proofs.YtgbaakopneldaaaDoor.XK Go.Proofs.YtgbaakopneldaaaDoor.Base Go.Proofs.YtgbaakopneldaaaDoorW.PrintWords Go.Proofs.YtgbaakopneldaaaDoorW.PrintLast Go.Proofs.YtgbaakopneldaaaDoorW.PrintMore
set_option linter.unusedVariables false
set_option linter.unusedSimpArgs false
def Quiet (x : Int) (q : ByteArray) : Prop := (∀ b ∈ q.data.toList, b ≠ 60 ∧ b ≠ 38 ∧ b ≠ 13 ∧ ((b.toNat : Nat) : Int) ≠ x) ∧ q.size ≤ 300
theorem nat_ne {b : UInt8} {n : Nat} (h : ¬ (((b.toNat : Nat) : Int) = (n : Int))) : b ≠ UInt8.ofNat n ∨ 256 ≤ n := by
  by_cases hn : n < 256
  · left; intro e; apply h; rw [e]; show ((n % 256 : Nat) : Int) = n; rw [Nat.mod_eq_of_lt hn]
  · right; omega
theorem quiet_go (s : ByteArray) (x : Int) (hs : s.size ≤ 140737488351232) : ∀ (d i : Nat) (acc : ByteArray), i + d = 300 → i ≤ s.size → acc.size ≤ i → (∀ b ∈ acc.data.toList, b ≠ 60 ∧ b ≠ 38 ∧ b ≠ 13 ∧ ((b.toNat : Nat) : Int) ≠ x) →
    ∃ q, Ev (fun k => stolelaw5_quiet.l0 k s x acc (i : Int)) q ∧ Quiet x q := by
  intro d
  induction d with
  | zero =>
    intro i acc hi his hacc hP
    refine ⟨acc, ?_, hP, by omega⟩
    refine Ev.step (f := fun k => _) (fun k => by rw [stolelaw5_quiet.l0]) ?_
    by_cases h : i < s.size
    · refine Ev.pos (by omega) ?_
      rw [show decide ((i : Int) < 300) = false from decide_eq_false (by omega)]
      refine Ev.step (f := fun k => _) (fun k => by rw [stolelaw5_quiet.j1]) ?_
      exact Ev.neg (by simp) (Ev.now acc)
    · refine Ev.neg (by omega) ?_
      refine Ev.step (f := fun k => _) (fun k => by rw [stolelaw5_quiet.j1]) ?_
      exact Ev.neg (by simp) (Ev.now acc)
  | succ d ih =>
    intro i acc hi his hacc hP
    by_cases h : i < s.size
    · have hwr : wrap64 ((i : Int) + 1) = ((i + 1 : Nat) : Int) := wrap_next (n := 300) (by omega) (by decide)
      have hskip := ih (i + 1) acc (by omega) (by omega) (by omega) hP
      have hl : i < s.data.toList.length := by rw [data_length]; exact h
      have hbt : bt s (i : Int) = (((s.data.toList[i]).toNat : Nat) : Int) := by
        rw [bt_list s i h, List.getD_eq_getElem?_getD, List.getElem?_eq_getElem hl]; rfl
      obtain ⟨c, hc⟩ : ∃ c, s.data.toList[i] = c := ⟨_, rfl⟩
      rw [hc] at hbt
      have wrapper : ∀ {q}, Ev (fun k => if (bt s (i : Int)) = 60 then (stolelaw5_quiet.l0 k s x acc (wrap64 ((i : Int) + 1))) else (if (bt s (i : Int)) = 38 then (stolelaw5_quiet.l0 k s x acc (wrap64 ((i : Int) + 1))) else (if (bt s (i : Int)) = 13 then (stolelaw5_quiet.l0 k s x acc (wrap64 ((i : Int) + 1))) else (if (bt s (i : Int)) = x then (stolelaw5_quiet.l0 k s x acc (wrap64 ((i : Int) + 1))) else (if (i : Int) ≤ (wrap64 ((i : Int) + 1)) then (if (wrap64 ((i : Int) + 1)) ≤ (s.size : Int) then (if acc.size + ((s.extract (i : Int).toNat ((wrap64 ((i : Int) + 1)) : Int).toNat).size) ≤ 9223372036854775807 then (stolelaw5_quiet.l0 k s x (acc ++ (s.extract (i : Int).toNat ((wrap64 ((i : Int) + 1)) : Int).toNat)) (wrap64 ((i : Int) + 1))) else (none)) else (none)) else (none)))))) q →
          Ev (fun k => stolelaw5_quiet.l0 k s x acc (i : Int)) q := by
        intro q hq
        refine Ev.step (f := fun k => _) (fun k => by rw [stolelaw5_quiet.l0]) ?_
        refine Ev.pos (by omega) ?_
        rw [show decide ((i : Int) < 300) = true from decide_eq_true (by omega)]
        refine Ev.step (f := fun k => _) (fun k => by rw [stolelaw5_quiet.j1]) ?_
        exact Ev.pos rfl (Ev.pos (by omega) (Ev.pos (by omega) hq))
      by_cases h1 : bt s (i : Int) = 60
      · obtain ⟨q, hq, hQ⟩ := hskip
        exact ⟨q, wrapper (Ev.pos h1 (by rw [hwr]; exact hq)), hQ⟩
      by_cases h2 : bt s (i : Int) = 38
      · obtain ⟨q, hq, hQ⟩ := hskip
        exact ⟨q, wrapper (Ev.neg h1 (Ev.pos h2 (by rw [hwr]; exact hq))), hQ⟩
      by_cases h3 : bt s (i : Int) = 13
      · obtain ⟨q, hq, hQ⟩ := hskip
        exact ⟨q, wrapper (Ev.neg h1 (Ev.neg h2 (Ev.pos h3 (by rw [hwr]; exact hq)))), hQ⟩
      by_cases h4 : bt s (i : Int) = x
      · obtain ⟨q, hq, hQ⟩ := hskip
        exact ⟨q, wrapper (Ev.neg h1 (Ev.neg h2 (Ev.neg h3 (Ev.pos h4 (by rw [hwr]; exact hq))))), hQ⟩
      have hcut : (s.extract (i : Int).toNat ((i + 1 : Nat) : Int).toNat).data.toList = [c] := by
        rw [Int.toNat_natCast, Int.toNat_natCast, Lib.extract_data, List.drop_eq_getElem_cons hl, hc, show i + 1 - i = 1 by omega]; rfl
      have hcs : (s.extract (i : Int).toNat ((i + 1 : Nat) : Int).toNat).size = 1 := by rw [← data_length, hcut]; rfl
      obtain ⟨q, hq, hQ⟩ := ih (i + 1) (acc ++ s.extract (i : Int).toNat ((i + 1 : Nat) : Int).toNat) (by omega) (by omega) (by rw [size_append, hcs]; omega) (by
        intro b hb
        rw [data_append, hcut] at hb
        rcases List.mem_append.1 hb with hb | hb
        · exact hP b hb
        · have : b = c := by simpa using hb
          subst this
          rw [hbt] at h1 h2 h3 h4
          refine ⟨?_, ?_, ?_, h4⟩
          · rcases nat_ne (n := 60) h1 with e | e; exact e; omega
          · rcases nat_ne (n := 38) h2 with e | e; exact e; omega
          · rcases nat_ne (n := 13) h3 with e | e; exact e; omega)
      refine ⟨q, wrapper (Ev.neg h1 (Ev.neg h2 (Ev.neg h3 (Ev.neg h4 ?_)))), hQ⟩
      rw [hwr]
      exact Ev.pos (by omega) (Ev.pos (by omega) (Ev.pos (by rw [hcs]; omega) hq))
    · refine ⟨acc, ?_, hP, by omega⟩
      refine Ev.step (f := fun k => _) (fun k => by rw [stolelaw5_quiet.l0]) ?_
      refine Ev.neg (by omega) ?_
      refine Ev.step (f := fun k => _) (fun k => by rw [stolelaw5_quiet.j1]) ?_
      exact Ev.neg (by simp) (Ev.now acc)
theorem quiet_ev (s : ByteArray) (x : Int) (hs : s.size ≤ 140737488351232) : ∃ q, Ev (fun k => stolelaw5_quiet.f k s x) q ∧ Quiet x q := by
  obtain ⟨q, hq, hQ⟩ := quiet_go s x hs 300 0 ⟨#[]⟩ rfl (Nat.zero_le _) (Nat.le_refl _) (fun b hb => by simp at hb)
  exact ⟨q, hq, hQ⟩
end Go.Proofs.YtgbaakopneldaaaDoor.P5
end
section
namespace Go.Proofs.YtgbaakopneldaaaDoor.P5
open Go.RowKit Go.Proofs.YtgbaakopneldaaaDoor.XK Go.Proofs.YtgbaakopneldaaaDoor.XL Go.Proofs.YtgbaakopneldaaaDoor.Tk Go.Proofs.YtgbaakopneldaaaDoor.ExtM Go.Proofs.YtgbaakopneldaaaDoor.Base Go.Proofs.YtgbaakopneldaaaDoorW.PrintWords Go.Proofs.YtgbaakopneldaaaDoorW.PrintLast Go.Proofs.YtgbaakopneldaaaDoorW.PrintMore
open Go.Proofs.YtgbaakopneldaaaDoor.Ln (linesB linesL lines_none)
set_option linter.unusedVariables false
set_option linter.unusedSimpArgs false
set_option maxRecDepth 100000
theorem toks_eq (l : List UInt8) : tok_Tokens.f ⟨l.toArray⟩ = some (tokensM l) := by
  unfold tok_Tokens.f
  rw [tokens_eq]
theorem toks_b (b : ByteArray) : tok_Tokens.f b = some (tokensM b.data.toList) := by
  unfold tok_Tokens.f
  rw [tokens_eq]
theorem toks_long (n : Nat) (h : 65536 < n) (x : Int) : tok_Tokens.f (strOfNums (List.replicate n x)) = some ([], 500) := by
  rw [toks_b]
  unfold tokensM
  rw [strOfNums_data, List.length_map, List.length_replicate, if_pos h]
def page0 : List UInt8 := [97, 60, 80, 32, 120, 61, 39, 49, 39, 32, 88, 61, 50, 32, 121, 62, 98, 38, 108, 116, 59, 60, 98, 114, 47, 62, 60, 47, 112, 62, 60, 33, 45, 45, 99, 45, 45, 62, 60, 116, 105, 116, 108, 101, 62, 60, 47, 116, 105, 116, 60, 47, 84, 73, 84, 76, 69, 62]
def ans0 : List S30 := [⟨0, ⟨#[]⟩, ⟨#[97]⟩, [], false⟩, ⟨1, ⟨#[112]⟩, ⟨#[]⟩, [⟨⟨#[120]⟩, ⟨#[49]⟩⟩, ⟨⟨#[121]⟩, ⟨#[]⟩⟩], false⟩, ⟨0, ⟨#[]⟩, ⟨#[98, 60]⟩, [], false⟩, ⟨1, ⟨#[98, 114]⟩, ⟨#[]⟩, [], true⟩, ⟨2, ⟨#[112]⟩, ⟨#[]⟩, [], false⟩, ⟨3, ⟨#[]⟩, ⟨#[99]⟩, [], false⟩, ⟨1, ⟨#[116, 105, 116, 108, 101]⟩, ⟨#[]⟩, [], false⟩, ⟨0, ⟨#[]⟩, ⟨#[60, 47, 116, 105, 116]⟩, [], false⟩, ⟨2, ⟨#[116, 105, 116, 108, 101]⟩, ⟨#[]⟩, [], false⟩]
theorem page0_eq : tokensM page0 = (ans0, 0) := by kernel_rfl
set_option maxHeartbeats 4000000 in
theorem awake_ok : stolelaw5_awake.f 60 = some true := by
  have h1 : tok_Tokens.f ⟨page0.toArray⟩ = some (ans0, 0) := by rw [toks_eq, page0_eq]
  unfold page0 at h1
  unfold stolelaw5_awake.f
  rw [h1, toks_long 65537 (by decide)]
  decide +kernel
theorem awake_ev : Ev (fun k => stolelaw5_awake.f k) true := Ev.of (fun k => stolelaw5_awake.mono k) awake_ok
end Go.Proofs.YtgbaakopneldaaaDoor.P5
end
