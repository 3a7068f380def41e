/- utf.sign and utf.Norm: what they answer, for every text whose norm fits. -/
import Derived.Test.YtfncppekjgbedaaGreatDoorShelf
import Derived.Test.YtfncppekjgbedaaGreatDoorBuilder
import Derived.Test.YtfncppekjgbedaaGreatDoorUtfPlain
import Derived.Test.YtfncppekjgbedaaGreatDoorWMore
import Derived.BigCall
namespace Go.Proofs.YtfncppekjgbedaaGreatDoor.Ext
open Go.RowKit Go.Lib Go.Proofs.YtfncppekjgbedaaGreatDoorW.PrintWords Go.Proofs.YtfncppekjgbedaaGreatDoorW.PrintLast Go.Proofs.YtfncppekjgbedaaGreatDoorW.PrintMore Go.Proofs.YtfncppekjgbedaaGreatDoor.Utf Go.Proofs.YtfncppekjgbedaaGreatDoor.Bld

/-- unicode/utf8's two tables, as their initialisers lay them. -/
def Tabs (w : World) : Prop := Lib.Utf8Tabs 1 2 w
theorem tabs_below {w w' : World} (h : Tabs w) (hb : Below w.heap.size w w') : Tabs w' := Utf8Tabs_below h hb

def strLen : Value → Nat
  | .string s => s.size
  | _ => 0

set_option maxHeartbeats 1000000 in
theorem sign_calls (s : ByteArray) (w : World) (hT : Tabs w) :
    Calls Tryz.prog 32 #[.string s] w fun e w' => e = .returned (.int .i64 (signL s.data.toList : Nat)) ∧ Below w.heap.size w w' := by
  have hd := Tryz.utf8_DecodeRuneInString s w hT
  rw [← sign_decode s]
  generalize hD : decodeGo s = D at hd
  obtain ⟨a, b⟩ := D
  simp only at hd
  have HT := Aside0.mk hT
  clear hT hD
  by_cases h0 : a = 0
  · have hz : decSign (a, b) = 0 := by simp [decSign, h0]
    have HZ := Aside0.mk hz
    clear hz
    have c1 : ((a : Int) == 0) = true := by rw [h0]; rfl
    go_enter Tryz.func32, Tryz.ntmps32
    go_wp2_with (go_at_call 41; refine hd.mono ?_; rintro e w' ⟨rfl, hb⟩)
    go_ret
    exact ⟨by rw [HZ.out]; rfl, hb⟩
  · have c1 : ((a : Int) == 0) = false := by rw [beq_eq_false_iff_ne]; omega
    by_cases h1 : a = 65533
    · have c2 : ((a : Int) == 65533) = true := by rw [h1]; rfl
      by_cases h2 : b = 1
      · have c3 : ((b : Int) == 1) = true := by rw [h2]; rfl
        have hz : decSign (a, b) = 0 := by simp [decSign, h1, h2]
        have HZ := Aside0.mk hz
        clear hz
        go_enter Tryz.func32, Tryz.ntmps32
        go_wp2_with (go_at_call 41; refine hd.mono ?_; rintro e w' ⟨rfl, hb⟩)
        go_ret
        exact ⟨by rw [HZ.out]; rfl, hb⟩
      · have c3 : ((b : Int) == 1) = false := by rw [beq_eq_false_iff_ne]; omega
        have hz : decSign (a, b) = b := by simp [decSign, h0, h2]
        have HZ := Aside0.mk hz
        clear hz
        go_enter Tryz.func32, Tryz.ntmps32
        go_wp2_with (go_at_call 41; refine hd.mono ?_; rintro e w' ⟨rfl, hb⟩)
        go_ret
        exact ⟨by rw [HZ.out]; rfl, hb⟩
    · have c2 : ((a : Int) == 65533) = false := by rw [beq_eq_false_iff_ne]; omega
      have hz : decSign (a, b) = b := by simp [decSign, h0, h1]
      have HZ := Aside0.mk hz
      clear hz
      go_enter Tryz.func32, Tryz.ntmps32
      go_wp2_with (go_at_call 41; refine hd.mono ?_; rintro e w' ⟨rfl, hb⟩)
      go_ret
      exact ⟨by rw [HZ.out]; rfl, hb⟩

theorem head_data (t : ByteArray) (i : Nat) : (t.extract 0 i).data.toList = t.data.toList.take i := by
  rw [Lib.extract_data]; simp
theorem bytes_str (l : List UInt8) (t : ByteArray) : Lib.byteCells l ++ Lib.strCells t = Lib.byteCells (l ++ t.data.toList) := by
  rw [Lib.strCells_eq, ← Lib.byteCells_append]
theorem atF_step {T e : TypeId} {B b : Nat} {p : Value} {bs : List Value} {w w' : World} (h : Lib.BuilderAtF T e B b p bs w) (hb : Below w.heap.size w w') : Lib.BuilderAtF T e B b p bs w' := by
  have hlt := h.lt
  obtain ⟨hB, v, hbk, hown, hne⟩ := h
  refine ⟨hB, v, (hb.block b hlt).trans hbk, hown.kept (grown_of_below hb none) ?_, hne⟩
  cases v.ownBlock <;> simp
theorem isF_step {T e : TypeId} {B b : Nat} {bs : List Value} {w w' : World} (h : Lib.IsBuilderF T e B b bs w) (hb : Below w.heap.size w w') : Lib.IsBuilderF T e B b bs w' :=
  h.elim (fun h => .inl (atF_step h hb)) (fun h => .inr (atF_step h hb))

set_option maxHeartbeats 1600000 in
theorem norm_calls (s : ByteArray) (w : World) (hT : Tabs w) (hs : 3 * s.size ≤ 140737488355328) :
    Calls Tryz.prog 19 #[.string s] w fun e w' => e = .returned (.string ⟨(normL s.data.toList).toArray⟩) ∧ Below w.heap.size w w' := by
  have h0 : Lib.IsBuilderF 45 5 w.heap.size w.heap.size (Lib.byteCells []) (w.alloc (.cells #[.pointer none, .slice none 0 0] 45)) := Lib.IsBuilderF.of (Lib.fresh_isBuilder 45 5 w)
  have b0 : Below w.heap.size w (w.alloc (.cells #[.pointer none, .slice none 0 0] 45)) := (Below.refl _ w).alloc (Nat.le_refl _) _
  have H0 := Aside0.mk h0
  have B0 := Aside0.mk b0
  have HT := Aside0.mk hT
  clear h0 b0 hT
  go_enter Tryz.func19, Tryz.ntmps19
  go_wp2
  go_loopw [0] (fun tv wr => ∃ (t : ByteArray) (acc : List UInt8), tv = .string t ∧ acc.length + 3 * t.size ≤ 3 * s.size ∧ Lib.IsBuilderF 45 5 w.heap.size w.heap.size (Lib.byteCells acc) wr ∧ Below w.heap.size w wr ∧
      normL s.data.toList = acc ++ normL t.data.toList)
    (fun tv _ => strLen tv)
  case atStart => exact ⟨s, [], rfl, by simp, H0.out, B0.out, rfl⟩
  case round =>
    obtain ⟨t, acc, rfl, hts, hI, hnx, hd⟩ := hrel
    have HD := Aside0.mk hd
    have HI := Aside0.mk hI
    have HX := Aside0.mk hnx
    clear H0 B0 hd hI hnx
    by_cases hz : t.size = 0
    · obtain rfl : t = ⟨#[]⟩ := by
        rcases t with ⟨⟨l⟩⟩
        have : l = [] := List.eq_nil_of_length_eq_zero hz
        rw [this]
      have hfin : normL s.data.toList = acc := by rw [HD.out]; simp [norm_nil]
      have HF := Aside0.mk hfin
      have hsz := HX.out.size
      have hstr := Tryz.Builder_String_any_f w.heap.size w.heap.size acc wr HI.out hsz
      have HS := Aside0.mk hstr
      clear HD hfin hts hsz hz hstr
      go_wp2_with (go_at_call 34; refine HS.out.mono ?_; rintro e w2 ⟨rfl, _, hb2⟩)
      go_wp2
      go_ret
      exact ⟨by rw [HF.out]; rfl, HX.out.trans hb2⟩
    · have hne : t.toList.isEmpty = false := by
        rw [Lib.toList_data]
        cases h : t.data.toList with
        | nil => exact absurd (by rw [Lib.size_eq, h]; rfl) hz
        | cons _ _ => rfl
      have hsg := sign_calls t wr (tabs_below HT.out HX.out)
      have hkl := sign_le t.data.toList
      have hl : t.data.toList.length = t.size := by rw [Array.length_toList]; rfl
      obtain ⟨c0, l0, hcl⟩ : ∃ c l, t.data.toList = c :: l := by
        cases h : t.data.toList with
        | nil => rw [h] at hl; exact absurd hl.symm hz
        | cons c l => exact ⟨c, l, rfl⟩
      by_cases hk : signL t.data.toList = 0
      · rw [hk] at hsg
        have hsg' : Calls Tryz.prog 32 #[.string t] wr fun e w' => e = .returned (.int .i64 0) ∧ Below wr.heap.size wr w' := hsg
        have HS := Aside0.mk hsg'
        have hn : normL t.data.toList = bad ++ normL (t.data.toList.drop 1) := by rw [hcl] at hk ⊢; exact norm_bad c0 l0 hk
        have HN := Aside0.mk hn
        clear hsg hsg' hkl hk hn hcl
        go_wp2_with (go_at_call 32; refine HS.out.mono ?_; rintro e w1 ⟨rfl, hb1⟩)
        have HI1 := Aside0.mk (isF_step HI.out hb1)
        have HX1 := Aside0.mk (HX.out.trans (hb1.mono HX.out.size))
        clear hb1
        have hlen : (Lib.byteCells acc).length + (⟨#[239, 191, 189]⟩ : ByteArray).size ≤ 140737488355328 := by
          rw [Lib.byteCells_length]; show acc.length + 3 ≤ _; omega
        have hws := writeString w.heap.size w.heap.size (Lib.byteCells acc) ⟨#[239, 191, 189]⟩ w1 HI1.out hlen HX1.out.size
        have HW := Aside0.mk hws
        clear hlen hws
        go_wp2_with (go_at_call 33; refine HW.out.mono ?_; rintro e w2 ⟨rfl, hi2, hb2, _⟩)
        have HI2 : Aside0 (Lib.IsBuilderF 45 5 w.heap.size w.heap.size (Lib.byteCells (acc ++ bad)) w2) := ⟨by
          rw [bytes_str] at hi2; exact .inr hi2⟩
        have HX2 := Aside0.mk (HX1.out.trans hb2)
        clear hi2 hb2
        have h1 : (1 : Int) ≤ (t.size : Int) := by omega
        go_wp2
        go_roundw
        case rel =>
          exact ⟨t.extract 1 t.size, acc ++ bad, rfl, by
            have : (t.extract 1 t.size).size = t.size - 1 := by simp
            rw [this, List.length_append]; simp only [bad, List.length_cons, List.length_nil]; omega, HI2.out, HX2.out, by rw [HD.out, HN.out, Lib.extract_to_end, List.append_assoc]⟩
        case measure =>
          have : (t.extract 1 t.size).size = t.size - 1 := by simp
          simp [strLen]; omega
      · obtain ⟨k, hkk⟩ : ∃ k, signL t.data.toList = k := ⟨_, rfl⟩
        rw [hkk] at hsg hkl hk
        have HS := Aside0.mk hsg
        have hn : normL t.data.toList = t.data.toList.take k ++ normL (t.data.toList.drop k) := by
          rw [hcl] at hkk ⊢; rw [norm_sign c0 l0 (by rw [hkk]; exact hk), hkk]
        have HN := Aside0.mk hn
        have hk0 : ((k : Int) == 0) = false := by rw [beq_eq_false_iff_ne]; omega
        have hkl2 : k ≤ t.size := by omega
        have hkl3 : (k : Int) ≤ (t.size : Int) := by omega
        clear hsg hkl hn hcl hkk hl
        go_wp2_with (go_at_call 32; refine HS.out.mono ?_; rintro e w1 ⟨rfl, hb1⟩)
        have HI1 := Aside0.mk (isF_step HI.out hb1)
        have HX1 := Aside0.mk (HX.out.trans (hb1.mono HX.out.size))
        clear hb1
        have hlen : (Lib.byteCells acc).length + (t.extract 0 k).size ≤ 140737488355328 := by
          rw [Lib.byteCells_length, show (t.extract 0 k).size = k from by simp; omega]; omega
        have hws := writeString w.heap.size w.heap.size (Lib.byteCells acc) (t.extract 0 k) w1 HI1.out hlen HX1.out.size
        have HW := Aside0.mk hws
        clear hlen hws
        go_wp2_with (go_at_call 33; refine HW.out.mono ?_; rintro e w2 ⟨rfl, hi2, hb2, _⟩)
        have HI2 : Aside0 (Lib.IsBuilderF 45 5 w.heap.size w.heap.size (Lib.byteCells (acc ++ t.data.toList.take k)) w2) := ⟨by
          rw [bytes_str, head_data] at hi2; exact .inr hi2⟩
        have HX2 := Aside0.mk (HX1.out.trans hb2)
        clear hi2 hb2
        go_wp2
        go_roundw
        case rel =>
          exact ⟨t.extract k t.size, acc ++ t.data.toList.take k, rfl, by
            have : (t.extract k t.size).size = t.size - k := by simp
            have e2 : t.data.toList.length = t.size := by rw [Array.length_toList]; rfl
            rw [this, List.length_append, List.length_take, e2]; omega, HI2.out, HX2.out, by rw [HD.out, HN.out, Lib.extract_to_end, List.append_assoc]⟩
        case measure =>
          have : (t.extract k t.size).size = t.size - k := by simp
          simp [strLen]; omega
end Go.Proofs.YtfncppekjgbedaaGreatDoor.Ext
