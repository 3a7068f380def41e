/- UrlSchemes: plain laws on the way (not the law itself yet). -/
import Derived.Test.YtfncppekjgbedaaDoorPTwice
import Derived.Test.YtfncppekjgbedaaDoorXU7
namespace Go.Proofs.YtfncppekjgbedaaDoor.Pure
open Go.RowKit Go.Proofs.YtfncppekjgbedaaDoor.XU Go.Proofs.YtfncppekjgbedaaDoor.Ext Go.Proofs.YtfncppekjgbedaaDoor.Sync Go.Proofs.YtfncppekjgbedaaDoor.Utf Go.Proofs.YtfncppekjgbedaaDoor.Base Go.Proofs.YtfncppekjgbedaaDoorW.PrintWords Go.Proofs.YtfncppekjgbedaaDoorW.PrintLast
set_option linter.unusedVariables false
set_option linter.unusedSimpArgs false

/-- Plain bytes ahead of a text stay ahead of its norm. -/
theorem norm_app (a l : List UInt8) (h : ∀ b ∈ a, 1 ≤ b.toNat ∧ b.toNat < 128) : normL (a ++ l) = a ++ normL l := by
  induction a with
  | nil => rfl
  | cons b a ih =>
    have hb := h b List.mem_cons_self
    have hs : signL (b :: (a ++ l)) = 1 := by
      unfold signL
      rw [if_neg (by simp)]
      have e : bAt (b :: (a ++ l)) 0 = b.toNat := rfl
      rw [e]; unfold sgnN
      rw [if_neg (by omega), if_pos hb.2]
    show normL (b :: (a ++ l)) = _
    rw [norm_sign b (a ++ l) (by rw [hs]; decide), hs]
    show [b] ++ normL (a ++ l) = b :: a ++ normL l
    rw [ih (fun x hx => h x (List.mem_cons_of_mem _ hx))]; rfl
theorem strip_blanks (bl l : List UInt8) (h : ∀ b ∈ bl, b.toNat ≤ 32) : stripL (bl ++ l) = stripL l := by
  induction bl with
  | nil => rfl
  | cons b bl ih =>
    show stripL (b :: (bl ++ l)) = _
    unfold stripL
    rw [List.dropWhile_cons, if_pos (by simpa using h b List.mem_cons_self)]
    exact ih (fun x hx => h x (List.mem_cons_of_mem _ hx))
/-- What is left of blanks, a name with breaks in it, and more. -/
theorem cut_code (s : ByteArray) (bl c r : List UInt8) (x : UInt8) (hs : s.data.toList = bl ++ ((x :: c) ++ r)) (hbl : ∀ b ∈ bl, b.toNat ≤ 32) (hx : 32 < x.toNat) :
    (cutS s).data.toList = (x :: c).filter (fun b => !brk b) ++ r.filter (fun b => !brk b) := by
  have e : (cutS s).data.toList = (stripL s.data.toList).filter fun b => !brk b := rfl
  have h2 : stripL ((x :: c) ++ r) = (x :: c) ++ r := by
    show stripL (x :: (c ++ r)) = _
    unfold stripL
    rw [List.dropWhile_cons, if_neg (by simp; omega)]; rfl
  rw [e, hs, strip_blanks bl _ hbl, h2, List.filter_append]
/-- The name stands ahead of a slash: no scheme. -/
theorem sch_slash (p r : List UInt8) (hs : ∀ b ∈ p, inSet schSet b.toNat = true) : (schL (p ++ 47 :: r)).2 = false := by
  have h47 : inSet schSet 47 = false := by decide +kernel
  have hpre : pre2 (p ++ 47 :: r) = p.length := by
    induction p with
    | nil => show pre2 (47 :: r) = 0; rw [pre2_cons, if_neg (by rw [show ((47 : UInt8).toNat) = 47 from rfl, h47]; decide)]
    | cons b p ih =>
      show pre2 (b :: (p ++ 47 :: r)) = _
      rw [pre2_cons, if_pos (hs b List.mem_cons_self), ih (fun x hx => hs x (List.mem_cons_of_mem _ hx))]; rfl
  unfold schL
  split
  · rfl
  split
  · rfl
  rw [if_pos]
  right
  rw [hpre, List.getD_eq_getElem?_getD, List.getElem?_append_right (Nat.le_refl _)]
  simp
end Go.Proofs.YtfncppekjgbedaaDoor.Pure
