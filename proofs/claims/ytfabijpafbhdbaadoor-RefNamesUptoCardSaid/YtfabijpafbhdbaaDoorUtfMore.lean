/- More on texts and their norm: plain lists of bytes, no program. -/
import Derived.Test.YtfabijpafbhdbaaDoorUtfPlain
namespace Go.Proofs.YtfabijpafbhdbaaDoor.Utf
theorem norm_len_ge (l : List UInt8) : l.length ≤ (normL l).length := by
  generalize hn : l.length = n
  induction n using Nat.strongRecOn generalizing l with
  | _ n ih =>
    cases l with
    | nil => simp at hn; omega
    | cons b l =>
      simp only [List.length_cons] at hn
      by_cases h : signL (b :: l) = 0
      · rw [norm_bad b l h, List.length_append]
        have := ih l.length (by omega) l rfl
        simp only [bad, List.length_cons, List.length_nil]; omega
      · rw [norm_sign b l h, List.length_append, List.length_take]
        have := ih ((b :: l).drop (signL (b :: l))).length (by rw [List.length_drop, List.length_cons]; omega) _ rfl
        rw [List.length_drop, List.length_cons] at this
        have := sign_le (b :: l)
        simp only [List.length_cons] at *
        omega
end Go.Proofs.YtfabijpafbhdbaaDoor.Utf
