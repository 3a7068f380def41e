/- refs.meant, refs.Encode, refs.Decode. -/
import Derived.Test.YtfabijpafbhdbaaDoorRefWalk2
import Derived.Test.YtfabijpafbhdbaaDoorExtNorm
import Derived.Test.YtfabijpafbhdbaaDoorBuilderByte
namespace Go.Proofs.YtfabijpafbhdbaaDoor.Refs
open Go.RowKit Go.Lib Go.Proofs.YtfabijpafbhdbaaDoorW.PrintWords Go.Proofs.YtfabijpafbhdbaaDoorW.PrintLast Go.Proofs.YtfabijpafbhdbaaDoorW.PrintMore Go.Proofs.YtfabijpafbhdbaaDoor.Utf Go.Proofs.YtfabijpafbhdbaaDoor.Bld Go.Proofs.YtfabijpafbhdbaaDoor.Ext

theorem drop_data (t : ByteArray) (i : Nat) : (t.extract i t.size).data.toList = t.data.toList.drop i := Lib.extract_to_end t i
theorem prefix_le {l p : List UInt8} (h : hasPrefix l p = true) : p.length ≤ l.length := (List.isPrefixOf_iff_prefix.1 h).length_le

theorem tuple_parts (o : Option (List UInt8)) : ∃ (x : ByteArray) (b : Bool), optV o = .tuple #[.string x, .bool b] := by
  cases o with
  | none => exact ⟨_, _, rfl⟩
  | some x => exact ⟨_, _, rfl⟩

set_option maxHeartbeats 1600000 in
theorem meant_calls (s : ByteArray) (w : World) :
    Calls Tryd.prog 24 #[.string s] w fun e w' => e = .returned (optV (meantL s.data.toList)) ∧ Below w.heap.size w w' := by
  have p1 := Tryd.strings_HasPrefix s ⟨#[35, 120]⟩ w
  have p2 := Tryd.strings_HasPrefix s ⟨#[35, 88]⟩ w
  have p3 := Tryd.strings_HasPrefix s ⟨#[35]⟩ w
  have hl := len_size s
  by_cases h : hasPrefix s.data.toList [35, 120] = true ∨ hasPrefix s.data.toList [35, 88] = true
  · have hsz : 2 ≤ s.size := by
      rw [← hl]; rcases h with h | h
      · exact prefix_le h
      · exact prefix_le h
    have hf : meantL s.data.toList = numL (s.extract 2 s.size).data.toList 16 6 := by unfold meantL; rw [if_pos h, drop_data]
    have hn := numbered_calls (s.extract 2 s.size) 16 6 w (by decide) (by decide)
    obtain ⟨x, b, hx⟩ := tuple_parts (numL (s.extract 2 s.size).data.toList 16 6)
    rw [← hf] at hn hx
    rw [hx] at hn
    have HN := Aside0.mk hn
    have HX := Aside0.mk hx
    have g2 : (2 : Int) ≤ (s.size : Int) := by omega
    by_cases h1 : hasPrefix s.data.toList [35, 120] = true
    · have p1' : Calls Tryd.prog 32 #[.string s, .string ⟨#[35, 120]⟩] w fun e w' => e = .returned (.bool true) ∧ w' = w := by
        have := p1; rw [show (⟨#[35, 120]⟩ : ByteArray).data.toList = [35, 120] from rfl, h1] at this; exact this
      have P1 := Aside0.mk p1'
      clear p1 p2 p3 p1' hf hn hx h h1 hl
      go_enter Tryd.func24, Tryd.ntmps24
      go_wp2_with (first | (go_at_call 32; refine P1.out.mono ?_; rintro e w1 ⟨rfl, rfl⟩) | (go_at_call 33; refine HN.out.mono ?_; rintro e w1 ⟨rfl, hb⟩))
      go_ret2
      exact ⟨by rw [HX.out]; rfl, hb⟩
    · have h2 := h.resolve_left h1
      have p1' : Calls Tryd.prog 32 #[.string s, .string ⟨#[35, 120]⟩] w fun e w' => e = .returned (.bool false) ∧ w' = w := by
        have := p1; rw [show (⟨#[35, 120]⟩ : ByteArray).data.toList = [35, 120] from rfl, show hasPrefix s.data.toList [35, 120] = false from by simpa using h1] at this; exact this
      have p2' : Calls Tryd.prog 32 #[.string s, .string ⟨#[35, 88]⟩] w fun e w' => e = .returned (.bool true) ∧ w' = w := by
        have := p2; rw [show (⟨#[35, 88]⟩ : ByteArray).data.toList = [35, 88] from rfl, h2] at this; exact this
      have P1 := Aside0.mk p1'
      have P2 := Aside0.mk p2'
      clear p1 p2 p3 p1' p2' hf hn hx h h1 h2 hl
      go_enter Tryd.func24, Tryd.ntmps24
      go_wp2_with (first | (go_at_call 32; refine P1.out.mono ?_; rintro e w1 ⟨rfl, rfl⟩) | (go_at_call 32; refine P2.out.mono ?_; rintro e w1 ⟨rfl, rfl⟩) | (go_at_call 33; refine HN.out.mono ?_; rintro e w1 ⟨rfl, hb⟩))
      go_ret2
      exact ⟨by rw [HX.out]; rfl, hb⟩
  · have h1 : hasPrefix s.data.toList [35, 120] = false := by cases hh : hasPrefix s.data.toList [35, 120] with | false => rfl | true => exact absurd (.inl hh) h
    have h2 : hasPrefix s.data.toList [35, 88] = false := by cases hh : hasPrefix s.data.toList [35, 88] with | false => rfl | true => exact absurd (.inr hh) h
    have p1' : Calls Tryd.prog 32 #[.string s, .string ⟨#[35, 120]⟩] w fun e w' => e = .returned (.bool false) ∧ w' = w := by
      have := p1; rw [show (⟨#[35, 120]⟩ : ByteArray).data.toList = [35, 120] from rfl, h1] at this; exact this
    have p2' : Calls Tryd.prog 32 #[.string s, .string ⟨#[35, 88]⟩] w fun e w' => e = .returned (.bool false) ∧ w' = w := by
      have := p2; rw [show (⟨#[35, 88]⟩ : ByteArray).data.toList = [35, 88] from rfl, h2] at this; exact this
    have P1 := Aside0.mk p1'
    have P2 := Aside0.mk p2'
    cases h3 : hasPrefix s.data.toList [35] with
    | true =>
      have p3' : Calls Tryd.prog 32 #[.string s, .string ⟨#[35]⟩] w fun e w' => e = .returned (.bool true) ∧ w' = w := by
        have := p3; rw [show (⟨#[35]⟩ : ByteArray).data.toList = [35] from rfl, h3] at this; exact this
      have P3 := Aside0.mk p3'
      have hsz : 1 ≤ s.size := by rw [← hl]; exact prefix_le h3
      have hf : meantL s.data.toList = numL (s.extract 1 s.size).data.toList 10 7 := by unfold meantL; rw [if_neg h, if_pos h3, drop_data]
      have hn := numbered_calls (s.extract 1 s.size) 10 7 w (by decide) (by decide)
      obtain ⟨x, b, hx⟩ := tuple_parts (numL (s.extract 1 s.size).data.toList 10 7)
      rw [← hf] at hn hx
      rw [hx] at hn
      have HN := Aside0.mk hn
      have HX := Aside0.mk hx
      have g2 : (1 : Int) ≤ (s.size : Int) := by omega
      clear p1 p2 p3 p1' p2' p3' hf hn hx h h1 h2 h3 hl
      go_enter Tryd.func24, Tryd.ntmps24
      go_wp2_with (first | (go_at_call 32; refine P1.out.mono ?_; rintro e w1 ⟨rfl, rfl⟩) | (go_at_call 32; refine P2.out.mono ?_; rintro e w1 ⟨rfl, rfl⟩) | (go_at_call 32; refine P3.out.mono ?_; rintro e w1 ⟨rfl, rfl⟩) | (go_at_call 33; refine HN.out.mono ?_; rintro e w1 ⟨rfl, hb⟩))
      go_ret2
      exact ⟨by rw [HX.out]; rfl, hb⟩
    | false =>
      have p3' : Calls Tryd.prog 32 #[.string s, .string ⟨#[35]⟩] w fun e w' => e = .returned (.bool false) ∧ w' = w := by
        have := p3; rw [show (⟨#[35]⟩ : ByteArray).data.toList = [35] from rfl, h3] at this; exact this
      have P3 := Aside0.mk p3'
      have hf : meantL s.data.toList = nameL s.data.toList := by unfold meantL; rw [if_neg h, if_neg (by rw [h3]; decide)]
      have hn := named_calls s w
      obtain ⟨x, b, hx⟩ := tuple_parts (nameL s.data.toList)
      rw [← hf] at hn hx
      rw [hx] at hn
      have HN := Aside0.mk hn
      have HX := Aside0.mk hx
      clear p1 p2 p3 p1' p2' p3' hf hn hx h h1 h2 h3 hl
      go_enter Tryd.func24, Tryd.ntmps24
      go_wp2_with (first | (go_at_call 32; refine P1.out.mono ?_; rintro e w1 ⟨rfl, rfl⟩) | (go_at_call 32; refine P2.out.mono ?_; rintro e w1 ⟨rfl, rfl⟩) | (go_at_call 32; refine P3.out.mono ?_; rintro e w1 ⟨rfl, rfl⟩) | (go_at_call 34; refine HN.out.mono ?_; rintro e w1 ⟨rfl, hb⟩))
      go_ret2
      exact ⟨by rw [HX.out]; rfl, hb⟩
end Go.Proofs.YtfabijpafbhdbaaDoor.Refs
