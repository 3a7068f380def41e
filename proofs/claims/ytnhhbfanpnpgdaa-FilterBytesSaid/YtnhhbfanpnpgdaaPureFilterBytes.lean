/- FilterBytes: each byte of css.Filter, plain or refused: the printed functions' plain law. -/
import Derived.Test.YtnhhbfanpnpgdaaXF3
import Derived.Test.YtnhhbfanpnpgdaaPureFilters
namespace Go.Proofs.Ytnhhbfanpnpgdaa.Pure
open Go.RowKit Go.Proofs.Ytnhhbfanpnpgdaa.XF Go.Proofs.YtnhhbfanpnpgdaaW.PrintWords Go.Proofs.YtnhhbfanpnpgdaaW.PrintLast Go.Proofs.Ytnhhbfanpnpgdaa.Base Go.Proofs.Ytnhhbfanpnpgdaa.Ext

def plainI (m : Int) : Bool := decide ((48 ≤ m ∧ m ≤ 57) ∨ (65 ≤ m ∧ m ≤ 90) ∨ (97 ≤ m ∧ m ≤ 122) ∨ m = 32 ∨ m = 35 ∨ m = 37 ∨ m = 46 ∨ m = 44 ∨ m = 45)

theorem fb_eq (k : Nat) (a0 : Int) (a1 : ByteArray) : stolelaw12_FilterBytes.f k a0 a1 = (stolelaw12_awake.f k).bind fun t => if t = true then
    stolelaw12_FilterBytes.j0 k a1 (strOfNums [(Go.bits .and .i64 a0 255) % 256]) (plainI (Go.bits .and .i64 a0 255)) else some false := by
  unfold stolelaw12_FilterBytes.f
  congr 1
  funext t
  refine ite_both (fun ht => ?_) (fun ht => ?_)
  · rw [if_pos ht]
    show _ = _
    generalize Go.bits .and .i64 a0 255 = m
    show (some (([m % 256] : List Int) : List Int)).bind _ = _
    rw [Option.bind_some]
    generalize stolelaw12_FilterBytes.j0 k a1 (strOfNums [m % 256]) = J
    have hT : plainI m = true → J true = J (plainI m) := fun h => by rw [h]
    have hE : (m ≠ 32 ∧ m ≠ 35 ∧ m ≠ 37 ∧ m ≠ 46 ∧ m ≠ 44 ∧ ¬ (48 ≤ m ∧ m ≤ 57) ∧ ¬ (65 ≤ m ∧ m ≤ 90) ∧ ¬ (97 ≤ m ∧ m ≤ 122)) → J (m == 45) = J (plainI m) := by
      intro h
      congr 1
      rw [Bool.eq_iff_iff, beq_iff_eq]
      unfold plainI
      rw [decide_eq_true_iff]
      omega
    repeat' refine ite_both (fun _ => ?_) (fun _ => ?_)
    all_goals first
      | exact hT (decide_eq_true (by omega))
      | exact hE (by omega)
  · rw [if_neg ht]

theorem plain_ok : ∀ n : Nat, n < 256 → plainI (n : Int) = okN n := by decide +kernel

theorem all_two (p : UInt8 → Bool) (l : List UInt8) (b : UInt8) : (l ++ [b]).all p = (l.all p && p b) := by
  rw [List.all_append, List.all_cons, List.all_nil, Bool.and_true]

theorem FilterBytes : stolelaw12_FilterBytes.Pure := by
  intro c a hc ha
  refine Ev.rounds ?_
  refine Ev.congr (fun k => fb_eq k c a) ?_
  refine Ev.bind awake12 (Ev.pos rfl ?_)
  have hm := and_mask c 8 (by decide)
  have hm2 : Go.bits .and .i64 c 255 = c % 256 := hm
  rw [hm2]
  obtain ⟨n, hn, hlt⟩ : ∃ n : Nat, c % 256 = (n : Int) ∧ n < 256 := ⟨(c % 256).toNat, by omega, by omega⟩
  rw [hn, show ((n : Int) % 256) = n from by omega, plain_ok n hlt]
  generalize hx : strOfNums [(n : Int)] = x
  have hxl : x.data.toList = [UInt8.ofNat n] := by rw [← hx, strOfNums_data]; rfl
  have hb : okB (UInt8.ofNat n) = okN n := by
    unfold okB
    rw [UInt8.toNat_ofNat', Nat.mod_eq_of_lt (by simpa using hlt)]
  have hxs : x.size = 1 := by rw [← data_length, hxl]; rfl
  have h1 : ((⟨#[49]⟩ : ByteArray) ++ x).size = 1 + x.size := size_append _ _
  have h2 : (((⟨#[49]⟩ : ByteArray) ++ x) ++ (⟨#[112, 120]⟩ : ByteArray)).size = 1 + x.size + 2 := by rw [size_append, h1]; rfl
  have h3 : (a ++ x).size = a.size + x.size := size_append _ _
  have hf1 : (((⟨#[49]⟩ : ByteArray) ++ x) ++ (⟨#[112, 120]⟩ : ByteArray)).data.toList.all okB = okN n := by
    have e1 : (⟨#[49]⟩ : ByteArray).data.toList.all okB = true := by decide +kernel
    have e2 : (⟨#[112, 120]⟩ : ByteArray).data.toList.all okB = true := by decide +kernel
    have e3 : [UInt8.ofNat n].all okB = okN n := by rw [← hb]; simp
    rw [data_append, data_append, hxl, List.all_append, List.all_append, e1, e2, e3, Bool.true_and, Bool.and_true]
  have hf2 : (a ++ x).data.toList.all okB = (a.data.toList.all okB && okN n) := by rw [data_append, hxl, all_two, hb]
  have hzl : Z.toList = ([90, 103, 111, 116, 109, 112, 108, 90] : List UInt8) := by rw [list_eq]; rfl
  refine Ev.step (f := fun k => _) (fun k => by rw [stolelaw12_FilterBytes.j0]) ?_
  refine Ev.pos (by omega) (Ev.pos (by omega) (Ev.bind (css_ev _ (by omega)) (Ev.pos (by omega) (Ev.bind (css_ev _ (by omega)) ?_))))
  by_cases h : okN n = true
  · refine Ev.pos h ?_
    rw [show filt (((⟨#[49]⟩ : ByteArray) ++ x) ++ (⟨#[112, 120]⟩ : ByteArray)) = (((⟨#[49]⟩ : ByteArray) ++ x) ++ (⟨#[112, 120]⟩ : ByteArray)) from by unfold filt; rw [hf1, if_pos h]]
    refine Ev.pos rfl ?_
    by_cases e : (filt (a ++ x)).toList = (a ++ x).toList
    · exact Ev.pos e (Ev.now true)
    · refine Ev.neg e (Ev.cast (Ev.now _) ?_)
      rw [(filt_two (a ++ x)).resolve_left (fun e' => e (by rw [e'])), hzl]
      rfl
  · refine Ev.neg h ?_
    rw [show filt (((⟨#[49]⟩ : ByteArray) ++ x) ++ (⟨#[112, 120]⟩ : ByteArray)) = Z from by unfold filt; rw [hf1, if_neg h]]
    rw [show filt (a ++ x) = Z from by unfold filt; rw [hf2, if_neg (by simp [h])]]
    exact Ev.pos hzl (Ev.pos rfl (Ev.bindC (s := 0) rfl (Ev.now _)))
end Go.Proofs.Ytnhhbfanpnpgdaa.Pure
