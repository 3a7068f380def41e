/- tok.Tokens as a machine of lists: what the walk's machine gives is what this one gives. The machine of lists: laws on its runs. tree.attrs, tree.may: walked (the closure, slices.ContainsFunc at it). tree.may: walked. A tree that grows (tree.builder, stoleref5.maker): what memory holds of it; inner, node. tree.builder's text: walked. -/
import Derived.Test.YtfmcdlbbbmeolaaGreatDoorU0
import Derived.Test.YtfmcdlbbbmeolaaGreatDoorU11
import Derived.Test.YtfmcdlbbbmeolaaGreatDoorU2
import Derived.KernelRfl
import Derived.Outline
import Derived.Deep.RegionHeld3
import Derived.Deep.DrawnRows
import Derived.Handy
section
namespace Go.Proofs.YtfmcdlbbbmeolaaGreatDoor.Tk
open Go.RowKit Go.Proofs.YtfmcdlbbbmeolaaGreatDoor.XK Go.Proofs.YtfmcdlbbbmeolaaGreatDoorW.PrintWords Go.Proofs.YtfmcdlbbbmeolaaGreatDoorW.PrintLast Go.Proofs.YtfmcdlbbbmeolaaGreatDoorW.PrintMore
open Go.Proofs.YtfmcdlbbbmeolaaGreatDoor.Refs (lowN decL)
open Go.Proofs.YtfmcdlbbbmeolaaGreatDoor.Ln (linesB linesL)
set_option linter.unusedVariables false
set_option linter.unusedSimpArgs false
set_option maxRecDepth 100000
def bts (l : List UInt8) : ByteArray := ⟨l.toArray⟩
theorem bts_data (l : List UInt8) : (bts l).data.toList = l := by unfold bts; simp
theorem bts_eq {s : ByteArray} {l : List UInt8} (h : s.data.toList = l) : s = bts l := Go.Proofs.YtfmcdlbbbmeolaaGreatDoor.Base.ext_list (by rw [h, bts_data])
structure Mc where
  st : St
  out : List S41
  buf : List UInt8
  pnd : List UInt8
  held : ByteArray
  ats : List S39
  cur : Option S39
def Mc.all (m : Mc) : List S39 := m.ats ++ m.cur.toList
def txtL (h : ByteArray) (b : List UInt8) : List S41 := match b with
  | [] => []
  | c :: l => [⟨0, ⟨#[]⟩, textV h (bts (c :: l)), [], false⟩]
def comL (s : St) (l : List UInt8) : List UInt8 := if s.pos = 17 then (l.drop 4).take (l.length - 6) else l.drop 2
def tagL (ats : List S39) (s : St) : S41 :=
  if s.pos = 22 then ⟨2, s.held, ⟨#[]⟩, [], false⟩ else if s.fin = true then ⟨2, s.name, ⟨#[]⟩, [], false⟩ else ⟨1, s.name, ⟨#[]⟩, keptR ats, s.pos == 12⟩
def more1 (v : ByteArray) (c : UInt8) : ByteArray := bts (v.data.toList ++ [c])
def attM (m : Mc) (nx : St) (c : UInt8) : List S39 × Option S39 :=
  if nx.pos = 3 then ([], none)
  else if nx.pos = 5 then (if m.st.pos = 5 then (m.ats, m.cur.map fun a => ⟨nx.attr, a.f1⟩) else (m.ats ++ m.cur.toList, some ⟨nx.attr, ⟨#[]⟩⟩))
  else if nx.pos = 10 then (m.ats, m.cur.map fun a => ⟨a.f0, if m.st.pos = 10 then more1 a.f1 c else bts [c]⟩)
  else if nx.pos = 8 ∨ nx.pos = 9 then (m.ats, m.cur.map fun a => ⟨a.f0, if m.st.pos = nx.pos then more1 a.f1 c else bts []⟩)
  else (m.ats, m.cur)
def stepM (m : Mc) (c : UInt8) : Mc :=
  let nx := stepS m.st c.toNat
  if c = 60 ∧ (nx.pos = 1 ∨ nx.pos = 20) then ⟨nx, m.out, m.buf ++ m.pnd, [c], m.held, m.ats, m.cur⟩
  else if c = 62 ∧ endsB m.st = true then ⟨nx, m.out ++ txtL m.held m.buf ++ [tagL m.all m.st], [], [], nx.held, m.ats, m.cur⟩
  else if c = 62 ∧ remarksB m.st = true then ⟨nx, m.out ++ txtL m.held m.buf ++ [⟨3, ⟨#[]⟩, bts (comL m.st m.pnd), [], false⟩], [], [], m.held, m.ats, m.cur⟩
  else ⟨nx, m.out, m.buf, m.pnd ++ [c], m.held, (attM m nx c).1, (attM m nx c).2⟩
def runM (m : Mc) (l : List UInt8) : Mc := l.foldl stepM m
def m0 : Mc := ⟨atS 0, [], [], [], ⟨#[]⟩, [], none⟩
def endM (m : Mc) : List S41 := m.out ++ txtL m.held (if restB m.st = true then m.buf ++ m.pnd else m.buf)
def tokensM (page : List UInt8) : List S41 × Int := if 65536 < page.length then ([], 500) else (endM (runM m0 (linesL page)), 0)
def sl (p : ByteArray) (a b : Nat) : List UInt8 := (p.data.toList.drop a).take (b - a)
theorem ext_sl (p : ByteArray) (a b : Nat) : p.extract a b = bts (sl p a b) := bts_eq (by rw [Lib.extract_data]; rfl)
theorem sl_self (p : ByteArray) (a : Nat) : sl p a a = [] := by unfold sl; rw [Nat.sub_self]; rfl
theorem sl_append (p : ByteArray) {a b c : Nat} (h1 : a ≤ b) (h2 : b ≤ c) : sl p a b ++ sl p b c = sl p a c := by
  unfold sl
  have h := List.take_append_drop (b - a) ((p.data.toList.drop a).take (c - a))
  rw [List.take_take, Nat.min_eq_left (by omega), List.drop_take, List.drop_drop] at h
  rw [show c - a - (b - a) = c - b by omega, show a + (b - a) = b by omega] at h
  exact h
theorem sl_snoc (p : ByteArray) {a i : Nat} (h1 : a ≤ i) (hi : i < p.data.toList.length) : sl p a (i + 1) = sl p a i ++ [p.data.toList[i]] := by
  rw [← sl_append p h1 (Nat.le_succ i)]
  congr 1
  unfold sl
  rw [List.drop_eq_getElem_cons hi, show i + 1 - i = 1 by omega]; rfl
theorem sl_one (p : ByteArray) {i : Nat} (hi : i < p.data.toList.length) : sl p i (i + 1) = [p.data.toList[i]] := by rw [sl_snoc p (Nat.le_refl i) hi, sl_self]; rfl
theorem sl_len (p : ByteArray) (a b : Nat) (h : b ≤ p.data.toList.length) : (sl p a b).length = b - a := by unfold sl; rw [List.length_take, List.length_drop]; omega
theorem rd_last (xs : List S39) (x : S39) : rd_T39 (xs ++ [x]) (((xs ++ [x]).length : Int) - 1) = x := by
  unfold rd_T39
  rw [List.length_append, List.length_singleton, show (((xs.length + 1 : Nat) : Int) - 1).toNat = xs.length by omega, List.getD_eq_getElem?_getD, List.getElem?_append_right (Nat.le_refl _), Nat.sub_self]
  rfl
theorem set_last (xs : List S39) (x y : S39) : (xs ++ [x]).set ((xs ++ [x]).length - 1) y = xs ++ [y] := by
  rw [List.length_append, List.length_singleton, Nat.add_sub_cancel, List.set_append_right _ _ (Nat.le_refl _), Nat.sub_self]; rfl
theorem setName_last (xs : List S39) (x : S39) (nm : ByteArray) : setName (xs ++ [x]) nm = xs ++ [⟨nm, x.f1⟩] := by unfold setName; rw [rd_last, set_last]
theorem setVal_last (xs : List S39) (x : S39) (v : ByteArray) : setVal (xs ++ [x]) v = xs ++ [⟨x.f0, v⟩] := by unfold setVal; rw [rd_last, set_last]
structure Rel (p : ByteArray) (i : Nat) (r : Rd) (s : St) (m : Mc) : Prop where
  st : m.st = s
  out : m.out = r.out
  held : m.held = r.held
  ats : r.ats = m.ats ++ m.cur.toList
  none : m.cur = none → m.ats = []
  tot : m.buf ++ m.pnd = sl p r.fr i
  pnd : s.pos ≠ 0 → s.pos ≠ 19 → m.pnd = sl p r.op i
  val : ∀ a, m.cur = some a → 8 ≤ s.pos → s.pos ≤ 10 → a.f1 = bts (sl p r.bg i)
theorem rel_start (p : ByteArray) : Rel p 0 rd0 (atS 0) m0 := ⟨rfl, rfl, rfl, rfl, fun _ => rfl, (sl_self p 0).symm, fun h => absurd rfl h, fun a h => by cases h⟩
theorem u8_eq (c : UInt8) (n : Nat) (h : n < 256) : c.toNat = n ↔ c = UInt8.ofNat n := by
  constructor
  · intro e; rw [← e, UInt8.ofNat_toNat]
  · intro e; rw [e]; show n % 256 = n; omega
theorem txt_eq (p : ByteArray) (r : Rd) (t : Nat) (b : List UInt8) (h : sl p r.fr t = b) : (textR p r t).out = r.out ++ txtL r.held b := by
  unfold textR
  rw [ext_sl, h, ByteArray.toList_eq, bts_data]
  cases b with
  | nil => show r.out = r.out ++ []; rw [List.append_nil]
  | cons c l => rw [if_neg (by simp)]; rfl
theorem byteAt_get (p : ByteArray) (i : Nat) (hi : i < p.data.toList.length) : byteAt p (i : Int) = (p.data.toList[i]).toNat := by
  unfold byteAt; rw [Int.toNat_natCast, List.getD_eq_getElem?_getD, List.getElem?_eq_getElem hi]; rfl
theorem rel_step {p : ByteArray} {i : Nat} {r : Rd} {s : St} {m : Mc} (hI : Inv p i r s) (h : Rel p i r s m) (hi : i < p.data.toList.length) {nx : St} (hnx : stepS s (byteAt p (i : Int)) = nx) (t : Tab s (byteAt p (i : Int)) nx) :
    Rel p (i + 1) (takesR p r s nx i) nx (stepM m (p.data.toList[i])) := by
  have hb := byteAt_get p i hi
  obtain ⟨c, hc⟩ : ∃ c, p.data.toList[i] = c := ⟨_, rfl⟩
  have hfr := hI.fr
  have hsn := sl_snoc p hfr hi
  rw [hc] at hb hsn ⊢
  rw [hb] at t hnx
  have hnx' : stepS m.st c.toNat = nx := by rw [h.st]; exact hnx
  have e60 : c.toNat = 60 ↔ c = 60 := u8_eq c 60 (by decide)
  have e62 : c.toNat = 62 ↔ c = 62 := u8_eq c 62 (by decide)
  unfold takesR stepM
  simp only [hnx', hb]
  by_cases c1 : c = 60 ∧ (nx.pos = 1 ∨ nx.pos = 20)
  · rw [if_pos c1, if_pos ⟨e60.2 c1.1, c1.2⟩]
    refine ⟨rfl, h.out, h.held, h.ats, h.none, ?_, fun _ _ => ?_, fun a ha h1 h2 => by omega⟩
    · show (m.buf ++ m.pnd) ++ [c] = sl p r.fr (i + 1)
      rw [h.tot, hsn]
    · show [c] = sl p i (i + 1)
      rw [sl_one p hi, hc]
  rw [if_neg c1, if_neg (fun e => c1 ⟨e60.1 e.1, e.2⟩)]
  have htx : s.pos ≠ 0 → s.pos ≠ 19 → sl p r.fr r.op = m.buf := by
    intro h1 h2
    have ho := hI.open_ h1 h2
    have ht := h.tot
    rw [h.pnd h1 h2, ← sl_append p ho.1 (show r.op ≤ i by omega)] at ht
    exact (List.append_cancel_right ht).symm
  by_cases c2 : c = 62 ∧ endsB m.st = true
  · rw [if_pos c2]
    rw [h.st] at c2
    rw [if_pos ⟨e62.2 c2.1, c2.2⟩]
    have hp := ends_pos c2.2
    have hn := t.ends (e62.2 c2.1) c2.2
    refine ⟨rfl, ?_, rfl, ?_, h.none, (sl_self p (i + 1)).symm, fun h1 h2 => by omega, fun a ha h1 h2 => by omega⟩
    · show m.out ++ txtL m.held m.buf ++ [tagL m.all m.st] = (textR p r r.op).out ++ [tagT r s]
      rw [txt_eq p r r.op m.buf (htx hp.1 hp.2), h.out, h.held, h.st]
      unfold tagL tagT Mc.all
      rw [← h.ats]
    · show (textR p r r.op).ats = _
      rw [(textR_out p r r.op).2.2.2.1]; exact h.ats
  rw [if_neg c2, if_neg (fun e => c2 ⟨e62.1 e.1, by rw [h.st]; exact e.2⟩)]
  by_cases c3 : c = 62 ∧ remarksB m.st = true
  · rw [if_pos c3]
    rw [h.st] at c3
    rw [if_pos ⟨e62.2 c3.1, c3.2⟩]
    have hp := rem_pos c3.2
    have hp0 : s.pos ≠ 0 ∧ s.pos ≠ 19 := by omega
    have hn := t.rem (e62.2 c3.1) c3.2
    have ha := (hI.asks t).rem c3.2
    have hpn := h.pnd hp0.1 hp0.2
    refine ⟨rfl, ?_, ?_, ?_, h.none, (sl_self p (i + 1)).symm, fun h1 h2 => by omega, fun a ha h1 h2 => by omega⟩
    · show m.out ++ txtL m.held m.buf ++ [⟨3, ⟨#[]⟩, bts (comL m.st m.pnd), [], false⟩] = (textR p r r.op).out ++ [comT p r s i]
      rw [txt_eq p r r.op m.buf (htx hp0.1 hp0.2), h.out, h.held, h.st]
      unfold comL comT
      rw [hpn, ext_sl, ext_sl]
      congr 3
      by_cases h17 : s.pos = 17
      · have := ha.2.2 h17
        rw [if_pos h17, if_pos h17]
        congr 1
        rw [sl_len p _ _ (by omega)]
        unfold sl
        rw [List.drop_take, List.drop_drop, List.take_take]
        congr 1 <;> omega
      · rw [if_neg h17, if_neg h17]
        congr 1
        unfold sl
        rw [List.drop_take, List.drop_drop]
        congr 1 <;> omega
    · show m.held = (textR p r r.op).held
      rw [(textR_out p r r.op).2.2.2.2.2]; exact h.held
    · show (textR p r r.op).ats = _
      rw [(textR_out p r r.op).2.2.2.1]; exact h.ats
  rw [if_neg c3, if_neg (fun e => c3 ⟨e62.1 e.1, by rw [h.st]; exact e.2⟩)]
  obtain ⟨p1, p2, p3, _⟩ := readsR_parts p r s nx i
  have hA := hI.asks t
  have hpnd : nx.pos ≠ 0 → nx.pos ≠ 19 → m.pnd ++ [c] = sl p r.op (i + 1) := by
    intro h1 h2
    by_cases hs : s.pos = 0 ∨ s.pos = 19
    · rcases t.dat hs with hd | hd
      · omega
      · exact absurd ⟨e60.1 hd.1, hd.2⟩ c1
    · have ho := hI.open_ (by omega) (by omega)
      rw [sl_snoc p (by omega : r.op ≤ i) hi, hc, h.pnd (by omega) (by omega)]
  have hcur : 0 < r.ats.length → ∃ a, m.cur = some a := by
    intro h0
    cases hq : m.cur with
    | some a => exact ⟨a, rfl⟩
    | none => rw [h.ats, hq, h.none hq] at h0; simp at h0
  -- the parts that no attribute touches
  have key : ∀ (r' : Rd) (q : List S39 × Option S39), r'.fr = r.fr → r'.op = r.op → r'.out = r.out → r'.held = r.held → r'.ats = q.1 ++ q.2.toList → (q.2 = none → q.1 = []) → (∀ a, q.2 = some a → 8 ≤ nx.pos → nx.pos ≤ 10 → a.f1 = bts (sl p r'.bg (i + 1))) →
      Rel p (i + 1) r' nx ⟨nx, m.out, m.buf, m.pnd ++ [c], m.held, q.1, q.2⟩ := by
    intro r' q q1 q2 q3 q4 q5 q6 q7
    exact ⟨rfl, by rw [q3]; exact h.out, by rw [q4]; exact h.held, q5, q6, by show m.buf ++ (m.pnd ++ [c]) = _; rw [q1, ← List.append_assoc, h.tot, hsn], by rw [q2]; exact hpnd, q7⟩
  have hne : ∀ a, m.cur = some a → r.ats = m.ats ++ [a] := fun a ha => by rw [h.ats, ha]; rfl
  by_cases n3 : nx.pos = 3
  · rw [show readsR p r s nx i = { r with ats := [] } by unfold readsR; rw [if_pos n3], show attM m nx c = ([], none) by unfold attM; rw [if_pos n3]]
    exact key _ _ rfl rfl rfl rfl rfl (fun _ => rfl) (fun a ha => by cases ha)
  by_cases n5 : nx.pos = 5
  · by_cases s5 : s.pos = 5
    · obtain ⟨a, ha⟩ := hcur (hI.has (by omega) (by omega))
      rw [show readsR p r s nx i = { r with ats := setName r.ats nx.attr } by unfold readsR; rw [if_neg n3, if_pos n5, if_pos s5], show attM m nx c = (m.ats, some ⟨nx.attr, a.f1⟩) by unfold attM; rw [if_neg n3, if_pos n5, h.st, if_pos s5, ha]; rfl]
      exact key _ _ rfl rfl rfl rfl (by show setName r.ats nx.attr = _; rw [hne a ha, setName_last]; rfl) (fun e => by cases e) (fun b hb h1 h2 => by omega)
    · rw [show readsR p r s nx i = { r with ats := setName (r.ats ++ [⟨⟨#[]⟩, ⟨#[]⟩⟩]) nx.attr } by unfold readsR; rw [if_neg n3, if_pos n5, if_neg s5], show attM m nx c = (m.ats ++ m.cur.toList, some ⟨nx.attr, ⟨#[]⟩⟩) by unfold attM; rw [if_neg n3, if_pos n5, h.st, if_neg s5]]
      exact key _ _ rfl rfl rfl rfl (by show setName (r.ats ++ [_]) nx.attr = _; rw [setName_last, h.ats]; rfl) (fun e => by cases e) (fun b hb h1 h2 => by omega)
  by_cases n10 : nx.pos = 10
  · have hat := t.attr (by omega) (by omega)
    obtain ⟨a, ha⟩ := hcur (hI.has hat.1 hat.2)
    by_cases s10 : s.pos = 10
    · have hv := h.val a ha (by omega) (by omega)
      have hb := hI.bg (by omega) (by omega)
      have hx : p.extract r.bg (i + 1) = more1 a.f1 c := by rw [ext_sl, sl_snoc p hb hi, hc, hv]; unfold more1; rw [bts_data]
      rw [show readsR p r s nx i = { r with ats := setVal r.ats (p.extract r.bg (i + 1)) } by unfold readsR; rw [if_neg n3, if_neg n5, if_pos n10, if_pos s10], show attM m nx c = (m.ats, some ⟨a.f0, more1 a.f1 c⟩) by unfold attM; rw [if_neg n3, if_neg n5, if_pos n10, h.st, ha, Option.map_some, if_pos s10]]
      exact key _ _ rfl rfl rfl rfl (by show setVal r.ats _ = _; rw [hne a ha, setVal_last, hx]; rfl) (fun e => by cases e) (fun b hb h1 h2 => by obtain rfl := Option.some.inj hb; show more1 a.f1 c = _; rw [← hx, ext_sl])
    · have hx : p.extract i (i + 1) = bts [c] := by rw [ext_sl, sl_one p hi, hc]
      rw [show readsR p r s nx i = { r with ats := setVal r.ats (p.extract i (i + 1)), bg := i } by unfold readsR; rw [if_neg n3, if_neg n5, if_pos n10, if_neg s10], show attM m nx c = (m.ats, some ⟨a.f0, bts [c]⟩) by unfold attM; rw [if_neg n3, if_neg n5, if_pos n10, h.st, ha, Option.map_some, if_neg s10]]
      exact key _ _ rfl rfl rfl rfl (by show setVal r.ats _ = _; rw [hne a ha, setVal_last, hx]; rfl) (fun e => by cases e) (fun b hb h1 h2 => by obtain rfl := Option.some.inj hb; show bts [c] = bts (sl p i (i + 1)); rw [sl_one p hi, hc])
  by_cases n89 : nx.pos = 8 ∨ nx.pos = 9
  · have hat := t.attr (by omega) (by omega)
    obtain ⟨a, ha⟩ := hcur (hI.has hat.1 hat.2)
    by_cases s8 : s.pos = nx.pos
    · have hv := h.val a ha (by omega) (by omega)
      have hb := hI.bg (by omega) (by omega)
      have hx : p.extract r.bg (i + 1) = more1 a.f1 c := by rw [ext_sl, sl_snoc p hb hi, hc, hv]; unfold more1; rw [bts_data]
      rw [show readsR p r s nx i = { r with ats := setVal r.ats (p.extract r.bg (i + 1)) } by unfold readsR; rw [if_neg n3, if_neg n5, if_neg n10, if_pos n89, if_pos s8], show attM m nx c = (m.ats, some ⟨a.f0, more1 a.f1 c⟩) by unfold attM; rw [if_neg n3, if_neg n5, if_neg n10, if_pos n89, h.st, ha, Option.map_some, if_pos s8]]
      exact key _ _ rfl rfl rfl rfl (by show setVal r.ats _ = _; rw [hne a ha, setVal_last, hx]; rfl) (fun e => by cases e) (fun b hb h1 h2 => by obtain rfl := Option.some.inj hb; show more1 a.f1 c = _; rw [← hx, ext_sl])
    · have hx : p.extract (i + 1) (i + 1) = bts [] := by rw [ext_sl, sl_self]
      rw [show readsR p r s nx i = { r with ats := setVal r.ats (p.extract (i + 1) (i + 1)), bg := i + 1 } by unfold readsR; rw [if_neg n3, if_neg n5, if_neg n10, if_pos n89, if_neg s8], show attM m nx c = (m.ats, some ⟨a.f0, bts []⟩) by unfold attM; rw [if_neg n3, if_neg n5, if_neg n10, if_pos n89, h.st, ha, Option.map_some, if_neg s8]]
      exact key _ _ rfl rfl rfl rfl (by show setVal r.ats _ = _; rw [hne a ha, setVal_last, hx]; rfl) (fun e => by cases e) (fun b hb h1 h2 => by obtain rfl := Option.some.inj hb; show bts [] = bts (sl p (i + 1) (i + 1)); rw [sl_self])
  rw [show readsR p r s nx i = r by unfold readsR; rw [if_neg n3, if_neg n5, if_neg n10, if_neg n89], show attM m nx c = (m.ats, m.cur) by unfold attM; rw [if_neg n3, if_neg n5, if_neg n10, if_neg n89]]
  exact key r (m.ats, m.cur) rfl rfl rfl rfl h.ats h.none (fun a ha h1 h2 => by omega)
theorem mach_run (p : ByteArray) : ∀ i, i ≤ p.data.toList.length → Rel p i (mach p i).1 (mach p i).2 (runM m0 (p.data.toList.take i))
  | 0, _ => rel_start p
  | i + 1, h => by
    have hi : i < p.data.toList.length := by omega
    have hI := mach_inv p i (by show i ≤ p.data.toList.length; omega)
    have := rel_step hI (mach_run p i (by omega)) hi rfl (step_tab _ _ hI.rng.1 hI.rng.2)
    rw [List.take_succ_eq_append_getElem hi]
    unfold runM
    rw [List.foldl_append]
    exact this
theorem tokens_eq (page : ByteArray) : tokensF page = tokensM page.data.toList := by
  unfold tokensF tokensM
  have hl : page.size = page.data.toList.length := rfl
  by_cases h : 65536 < page.size
  · rw [if_pos h, if_pos (by omega)]
  · rw [if_neg h, if_neg (by omega)]
    have hd : (linesB page).data.toList = linesL page.data.toList := by unfold linesB; simp
    obtain ⟨p, hp⟩ : ∃ p, linesB page = p := ⟨_, rfl⟩
    rw [hp] at hd ⊢
    rw [← hd]
    have hsz : p.size = p.data.toList.length := rfl
    have hR := mach_run p p.size (by omega)
    have hI := mach_inv p p.size (Nat.le_refl _)
    rw [List.take_of_length_le (by omega)] at hR
    congr 1
    unfold restR endM
    rw [hR.st]
    by_cases hb : restB (mach p p.size).2 = true
    · rw [if_pos hb, if_pos hb, txt_eq _ _ _ _ hR.tot.symm, hR.out, hR.held]
    · rw [if_neg hb, if_neg hb, hR.out, hR.held]
      refine txt_eq _ _ _ _ ?_
      have hp0 : (mach p p.size).2.pos ≠ 0 ∧ (mach p p.size).2.pos ≠ 19 := by
        constructor
        · intro e; exact hb (by unfold restB; rw [if_pos (Or.inl e)])
        · intro e; exact hb (by unfold restB; rw [if_pos (by omega)])
      have ho := hI.open_ hp0.1 hp0.2
      have ht := hR.tot
      rw [hR.pnd hp0.1 hp0.2, ← sl_append p ho.1 (show (mach p p.size).1.op ≤ p.size by omega)] at ht
      exact (List.append_cancel_right ht).symm
end Go.Proofs.YtfmcdlbbbmeolaaGreatDoor.Tk
end
section
namespace Go.Proofs.YtfmcdlbbbmeolaaGreatDoor.Tk
open Go.RowKit Go.Proofs.YtfmcdlbbbmeolaaGreatDoor.XK Go.Proofs.YtfmcdlbbbmeolaaGreatDoorW.PrintWords Go.Proofs.YtfmcdlbbbmeolaaGreatDoorW.PrintLast Go.Proofs.YtfmcdlbbbmeolaaGreatDoorW.PrintMore
open Go.Proofs.YtfmcdlbbbmeolaaGreatDoor.Refs (lowN decL decL_plain decL_nil)
open Go.Proofs.YtfmcdlbbbmeolaaGreatDoor.Ln (linesB linesL lines_none)
set_option linter.unusedVariables false
set_option linter.unusedSimpArgs false
set_option maxRecDepth 100000
theorem run_app (m : Mc) (a b : List UInt8) : runM m (a ++ b) = runM (runM m a) b := List.foldl_append
theorem run_cons (m : Mc) (a : UInt8) (b : List UInt8) : runM m (a :: b) = runM (stepM m a) b := rfl
def Stays (s : St) (b : UInt8) : Prop := stepS s b.toNat = s ∧ ¬ (b = 60 ∧ (s.pos = 1 ∨ s.pos = 20)) ∧ ¬ (b = 62 ∧ endsB s = true) ∧ ¬ (b = 62 ∧ remarksB s = true)
theorem step_stay {m : Mc} {s : St} {b : UInt8} (hs : m.st = s) (hp : s.pos ≠ 3 ∧ s.pos ≠ 5 ∧ s.pos ≠ 8 ∧ s.pos ≠ 9 ∧ s.pos ≠ 10) (h : Stays s b) : stepM m b = { m with pnd := m.pnd ++ [b] } := by
  obtain ⟨h1, h2, h3, h4⟩ := h
  subst hs
  unfold stepM
  simp only [h1]
  rw [if_neg h2, if_neg h3, if_neg h4]
  unfold attM
  rw [if_neg hp.1, if_neg hp.2.1, if_neg hp.2.2.2.2, if_neg (by omega)]
theorem run_stay {s : St} (hp : s.pos ≠ 3 ∧ s.pos ≠ 5 ∧ s.pos ≠ 8 ∧ s.pos ≠ 9 ∧ s.pos ≠ 10) : ∀ (l : List UInt8) (m : Mc), m.st = s → (∀ b ∈ l, Stays s b) → runM m l = { m with pnd := m.pnd ++ l }
  | [], m, _, _ => by show m = _; rw [List.append_nil]
  | b :: l, m, hs, h => by
    rw [run_cons, step_stay hs hp (h b (by simp)), run_stay hp l { m with pnd := m.pnd ++ [b] } hs (fun x hx => h x (by simp [hx]))]
    simp only [List.append_assoc]; rfl
theorem ne_nat {b : UInt8} {n : Nat} (hn : n < 256) (h : b ≠ UInt8.ofNat n) : b.toNat ≠ n := fun e => h ((u8_eq b n hn).1 e)
theorem stays_data {b : UInt8} (h : b ≠ 60) : Stays (atS 0) b := by
  refine ⟨?_, fun e => h e.1, fun e => absurd e.2 (by decide), fun e => absurd e.2 (by decide)⟩
  rw [stepS_0 _ rfl]; unfold dataS; rw [if_neg (ne_nat (n := 60) (by decide) h)]
theorem stays_comment {b : UInt8} (h : b ≠ 45) : Stays (atS 15) b := by
  refine ⟨?_, fun e => absurd e.2 (by decide), fun e => absurd e.2 (by decide), fun e => absurd e.2 (by decide)⟩
  rw [stepS_15 _ rfl]; unfold commentS; rw [if_neg (ne_nat (n := 45) (by decide) h)]; rfl
theorem stays_bogus {b : UInt8} (h : b ≠ 62) : Stays (atS 18) b := by
  refine ⟨?_, fun e => absurd e.2 (by decide), fun e => h e.1, fun e => h e.1⟩
  rw [stepS_18 _ rfl]; unfold bogusS; rw [if_neg (ne_nat (n := 62) (by decide) h)]; rfl
def heldSt (h : ByteArray) : St := ⟨19, ⟨#[]⟩, false, ⟨#[]⟩, h, 0⟩
theorem stays_held {h : ByteArray} {b : UInt8} (hb : b ≠ 60) : Stays (heldSt h) b := by
  refine ⟨?_, fun e => hb e.1, fun e => absurd e.2 (by unfold endsB heldSt; simp), fun e => absurd e.2 (by unfold remarksB heldSt; simp)⟩
  rw [stepS_19 _ rfl]; unfold holdsS; rw [if_neg (ne_nat (n := 60) (by decide) hb)]; rfl
theorem run_data (m : Mc) (l : List UInt8) (hs : m.st = atS 0) (h : ∀ b ∈ l, b ≠ 60) : runM m l = { m with pnd := m.pnd ++ l } := run_stay (by decide) l m hs (fun b hb => stays_data (h b hb))
theorem run_comment (m : Mc) (l : List UInt8) (hs : m.st = atS 15) (h : ∀ b ∈ l, b ≠ 45) : runM m l = { m with pnd := m.pnd ++ l } := run_stay (by decide) l m hs (fun b hb => stays_comment (h b hb))
theorem run_bogus (m : Mc) (l : List UInt8) (hs : m.st = atS 18) (h : ∀ b ∈ l, b ≠ 62) : runM m l = { m with pnd := m.pnd ++ l } := run_stay (by decide) l m hs (fun b hb => stays_bogus (h b hb))
def heldB (s : St) : Bool := decide (19 ≤ s.pos) && decide (s.pos ≤ 22)
def quietRun : St → List UInt8 → Bool
  | _, [] => true
  | s, c :: l => heldB (stepS s c.toNat) && !(c == 62 && endsB s) && quietRun (stepS s c.toNat) l
def stRun (s : St) (l : List UInt8) : St := l.foldl (fun s c => stepS s c.toNat) s
theorem rem_held {s : St} (h : heldB s = true) : remarksB s = false := by
  unfold heldB at h; simp at h
  cases hr : remarksB s with
  | false => rfl
  | true => have := rem_pos hr; omega
theorem run_held : ∀ (l : List UInt8) (m : Mc), heldB m.st = true → quietRun m.st l = true →
    (runM m l).st = stRun m.st l ∧ (runM m l).out = m.out ∧ (runM m l).held = m.held ∧ (runM m l).ats = m.ats ∧ (runM m l).cur = m.cur ∧ (runM m l).buf ++ (runM m l).pnd = m.buf ++ m.pnd ++ l
  | [], m, _, _ => ⟨rfl, rfl, rfl, rfl, rfl, by rw [List.append_nil]; rfl⟩
  | c :: l, m, h0, h => by
    unfold quietRun at h
    simp only [Bool.and_eq_true, Bool.not_eq_true', Bool.and_eq_false_iff] at h
    obtain ⟨⟨h1, h2⟩, h3⟩ := h
    have hs : (stepM m c).st = stepS m.st c.toNat ∧ (stepM m c).out = m.out ∧ (stepM m c).held = m.held ∧ (stepM m c).ats = m.ats ∧ (stepM m c).cur = m.cur ∧ (stepM m c).buf ++ (stepM m c).pnd = m.buf ++ m.pnd ++ [c] := by
      unfold stepM
      simp only []
      by_cases c1 : c = 60 ∧ ((stepS m.st c.toNat).pos = 1 ∨ (stepS m.st c.toNat).pos = 20)
      · rw [if_pos c1]; exact ⟨rfl, rfl, rfl, rfl, rfl, rfl⟩
      rw [if_neg c1, if_neg (fun e => by rcases h2 with h2 | h2; simp [e.1] at h2; rw [e.2] at h2; exact absurd h2 (by simp)), if_neg (fun e => by rw [rem_held h0] at e; exact absurd e.2 (by simp))]
      unfold heldB at h1; simp at h1
      unfold attM
      rw [if_neg (by omega), if_neg (by omega), if_neg (by omega), if_neg (by omega)]
      exact ⟨rfl, rfl, rfl, rfl, rfl, by simp only [List.append_assoc]⟩
    obtain ⟨s1, s2, s3, s4, s5, s6⟩ := hs
    obtain ⟨r1, r2, r3, r4, r5, r6⟩ := run_held l (stepM m c) (by rw [s1]; exact h1) (by rw [s1]; exact h3)
    rw [run_cons]
    refine ⟨by rw [r1, s1]; rfl, by rw [r2, s2], by rw [r3, s3], by rw [r4, s4], by rw [r5, s5], by rw [r6, s6]; simp only [List.append_assoc]; rfl⟩
theorem quiet_app : ∀ (a b : List UInt8) (s : St), quietRun s (a ++ b) = (quietRun s a && quietRun (stRun s a) b)
  | [], b, s => by simp [quietRun, stRun]
  | c :: a, b, s => by
    show quietRun s (c :: (a ++ b)) = _
    rw [quietRun, quietRun, quiet_app a b]
    simp only [Bool.and_assoc]; rfl
theorem stRun_app (a b : List UInt8) (s : St) : stRun s (a ++ b) = stRun (stRun s a) b := List.foldl_append
theorem quiet_held (h : ByteArray) : ∀ (l : List UInt8), (∀ b ∈ l, b ≠ 60) → quietRun (heldSt h) l = true ∧ stRun (heldSt h) l = heldSt h
  | [], _ => ⟨rfl, rfl⟩
  | c :: l, hl => by
    have hst := (stays_held (h := h) (hl c (by simp))).1
    have ih := quiet_held h l (fun b hb => hl b (by simp [hb]))
    unfold quietRun
    rw [hst]
    refine ⟨?_, ?_⟩
    · rw [ih.1, show endsB (heldSt h) = false by unfold endsB heldSt; simp]
      simp; rfl
    · show stRun (stepS (heldSt h) c.toNat) l = _
      rw [hst]; exact ih.2
theorem dec_plain : ∀ l : List UInt8, (∀ b ∈ l, b ≠ 38) → decL l = l
  | [], _ => decL_nil
  | c :: l, h => by rw [decL_plain c l (h c (by simp)), dec_plain l (fun b hb => h b (by simp [hb]))]
theorem textV_plain (h : ByteArray) (l : List UInt8) (hl : ∀ b ∈ l, b ≠ 38) : textV h (bts l) = bts l := by
  unfold textV
  repeat' split
  all_goals first
    | rfl
    | (unfold decS; rw [bts_data, dec_plain l hl]; rfl)
theorem txt_plain (h : ByteArray) (c : UInt8) (l : List UInt8) (hl : ∀ b ∈ c :: l, b ≠ 38) : txtL h (c :: l) = [⟨0, ⟨#[]⟩, bts (c :: l), [], false⟩] := by
  show [_] = _
  rw [textV_plain h _ hl]
theorem txt_ne (h : ByteArray) (l : List UInt8) (hn : l ≠ []) (hl : ∀ b ∈ l, b ≠ 38) : txtL h l = [⟨0, ⟨#[]⟩, bts l, [], false⟩] := by
  cases l with
  | nil => exact absurd rfl hn
  | cons c l => exact txt_plain h c l hl
end Go.Proofs.YtfmcdlbbbmeolaaGreatDoor.Tk
end
section
namespace Go.Proofs.YtfmcdlbbbmeolaaGreatDoor.Tr
open Go.RowKit Go.Proofs.YtfmcdlbbbmeolaaGreatDoor.XK Go.Proofs.YtfmcdlbbbmeolaaGreatDoorW.PrintWords Go.Proofs.YtfmcdlbbbmeolaaGreatDoorW.PrintLast Go.Proofs.YtfmcdlbbbmeolaaGreatDoorW.PrintMore
def has (nm : ByteArray) (xs : List S39) : Bool := xs.any fun x => x.f0.toList == nm.toList
def NatInt (xs : List S39) (nm : ByteArray) (w : World) (e : Ending) (w' : World) : Prop := ∃ r : Int, e = .returned (.int .i64 r) ∧ decide (0 ≤ r) = has nm xs ∧ Below w.heap.size w w'
theorem cell_alloc {w : World} {a : Addr} {v : Value} (h : w.cell? a = some v) (o : Obj) : (w.alloc o).cell? a = some v := pw_cell_below ((Below.refl _ _).alloc (Nat.le_refl _) o) h
theorem has_snoc (nm : ByteArray) (xs : List S39) (k : Nat) (h : k < xs.length) : has nm (xs.take (k + 1)) = (has nm (xs.take k) || (xs[k].f0.toList == nm.toList)) := by
  unfold has; rw [List.take_succ_eq_append_getElem h, List.any_append]; simp
set_option maxHeartbeats 800000 in
theorem same_calls (x : S39) (nm : ByteArray) (a : Addr) (w : World) (hc : w.cell? a = some (.string nm)) :
    Calls Tryz.prog 211 #[.agg #[.string x.f0, .string x.f1], .pointer (some a)] w fun e w' => e = .returned (.bool (x.f0.toList == nm.toList)) ∧ Below w.heap.size w w' := by
  have hB : Below w.heap.size w (w.alloc (.cells #[.string x.f0, .string x.f1] 39)) := (Below.refl _ _).alloc (Nat.le_refl _) _
  have HB := Aside0.mk hB
  have hc' := cell_alloc hc (.cells #[.string x.f0, .string x.f1] 39)
  clear hB hc
  go_enter Tryz.func211, Tryz.ntmps211
  go_wp2
  go_ret
  exact ⟨rfl, HB.out⟩
set_option maxHeartbeats 1600000 in
theorem index_calls (xs : List S39) (A : Option Addr) (c : Nat) (nm : ByteArray) (a : Addr) (w : World) (hx : Kd.C k39 w A xs.length xs) (hc : w.cell? a = some (.string nm)) :
    Calls Tryz.prog 230 #[.slice A xs.length c, .func (.func 211) #[] #[.pointer (some a)]] w (NatInt xs nm w) := by
  have HX := Aside0.mk hx
  have HC := Aside0.mk hc
  have HL := Aside0.mk hx.2.1
  have hu48 := Tryz.underlying39
  clear hx hc
  go_enter Tryz.func230, Tryz.ntmps230
  go_wp2
  go_loopw [8] (fun i wr => ∃ k : Nat, k ≤ xs.length ∧ i = .int .i64 k ∧ Aside0 (has nm (xs.take k) = false) ∧ Aside0 (Below w.heap.size w wr))
    (fun i _ => xs.length - (RowKit.intOf i).toNat)
  case atStart => exact ⟨0, Nat.zero_le _, rfl, ⟨rfl⟩, ⟨Below.refl _ _⟩⟩
  case round =>
    obtain ⟨k, hk, rfl, HN, HB⟩ := hrel
    have hm := HL.out
    by_cases hlt : k < xs.length
    · obtain ⟨ad, e, h0, h1⟩ := at_T39 HX.out (k : Int) (by omega) (by omega)
      cases e
      replace h0 := pw_cell_below HB.out h0
      replace h1 := pw_cell_below HB.out h1
      simp only [Int.toNat_natCast] at h0 h1
      obtain ⟨x, hxx⟩ : ∃ x, rd_T39 xs (k : Int) = x := ⟨_, rfl⟩
      rw [hxx] at h0 h1
      have HX1 := Aside0.mk (show xs[k] = x by rw [← hxx]; simp [rd_T39, List.getD_eq_getElem?_getD, List.getElem?_eq_getElem hlt])
      have HC1 := Aside0.mk (pw_cell_below HB.out HC.out)
      clear hxx
      by_cases hq : (x.f0.toList == nm.toList) = true
      · have HS := Aside0.mk (same_calls x nm a wr HC1.out)
        rw [hq] at HS
        have HQ := Aside0.mk hq
        clear hq
        go_wp2_with (go_at_call 211; refine HS.out.mono ?_; rintro e w2 ⟨rfl, hb2⟩)
        go_ret
        refine ⟨(k : Int), rfl, ?_, HB.out.trans (hb2.mono HB.out.size)⟩
        have hh : has nm xs = true := by
          unfold has
          rw [List.any_eq_true]
          exact ⟨xs[k], List.getElem_mem _, by rw [HX1.out]; exact HQ.out⟩
        rw [hh]; simp
      · have hq : (x.f0.toList == nm.toList) = false := by simpa using hq
        have HS := Aside0.mk (same_calls x nm a wr HC1.out)
        rw [hq] at HS
        have HQ := Aside0.mk hq
        clear hq
        go_wp2_with (go_at_call 211; refine HS.out.mono ?_; rintro e w2 ⟨rfl, hb2⟩)
        have HB2 := Aside0.mk (HB.out.trans (hb2.mono HB.out.size))
        have HN2 := Aside0.mk (show has nm (xs.take (k + 1)) = false by rw [has_snoc nm xs k hlt, HN.out, HX1.out, HQ.out]; rfl)
        clear hb2
        go_roundw
        case rel => exact ⟨k + 1, by omega, by go_num, HN2, HB2⟩
        case measure => simp [RowKit.intOf]; omega
    · have HN2 := Aside0.mk (show has nm xs = false by have := HN.out; rwa [List.take_of_length_le (by omega)] at this)
      go_wp2
      go_ret
      exact ⟨-1, rfl, by rw [HN2.out]; rfl, HB.out⟩
theorem contains_calls (xs : List S39) (A : Option Addr) (c : Nat) (nm : ByteArray) (a : Addr) (w : World) (hx : Kd.C k39 w A xs.length xs) (hc : w.cell? a = some (.string nm)) :
    Calls Tryz.prog 205 #[.slice A xs.length c, .func (.func 211) #[] #[.pointer (some a)]] w fun e w' => e = .returned (.bool (has nm xs)) ∧ Below w.heap.size w w' := by
  have HI := Aside0.mk (index_calls xs A c nm a w hx hc)
  clear hx hc
  go_enter Tryz.func205, Tryz.ntmps205
  go_wp2_with (go_at_call 230; refine HI.out.mono ?_; rintro e w2 ⟨r, rfl, hr, hb2⟩; have HR := Aside0.mk hr; clear hr)
  go_ret
  refine ⟨?_, hb2⟩
  rw [← HR.out]; rfl
theorem take_run {P : Program} (t e : TypeId) (kl : IntKind) {i : TypeInfo} (ht : P.underlying t = some (.slice e)) (hi : P.info? e = some i) (A : Option Addr) (n c k : Nat) (hm : k ≤ c) :
    ∀ W : World, (Instr.slice t (.slice A n c) none (some (.int kl (k : Int))) none).run P W = .ok (.slice A k c) W := by
  intro W
  have hel : P.elem t = e := by simp [Program.elem, ht]
  have hu : P.underlying t = some (.slice (P.elem t)) := by rw [hel]; exact ht
  have ha : (A.map fun x => x.add 0) = A := by cases A <;> simp [Addr.add]
  rw [run_slice_h W t A n c hu kl (k : Int) (by omega) (by omega), hel]
  simp [sizeOf, typeInfo, hi, sliced, Result.andThen, ha]
def okA : List S39 → Nat → Bool
  | _, 0 => true
  | xs, n + 1 => okA xs n && (match xs[n]? with
    | some x => !(x.f0.toList == []) && !has x.f0 (xs.take n)
    | none => true)
def attrsOk (xs : List S39) : Bool := okA xs xs.length && decide (xs.length ≤ 32)
theorem okA_false (xs : List S39) (n : Nat) : ∀ m, n ≤ m → okA xs n = false → okA xs m = false := by
  intro m
  induction m with
  | zero => intro h h0; obtain rfl : n = 0 := by omega
            exact h0
  | succ m ih =>
    intro h h0
    rcases Nat.lt_or_ge n (m + 1) with h1 | h1
    · rw [okA, ih (by omega) h0]; rfl
    · obtain rfl : n = m + 1 := by omega
      exact h0
set_option maxHeartbeats 1600000 in
theorem attrs_calls (xs : List S39) (A : Option Addr) (c : Nat) (w : World) (hx : Kd.C k39 w A xs.length xs) (hc : xs.length ≤ c) :
    Calls Tryz.prog 175 #[.slice A xs.length c] w fun e w' => e = .returned (.bool (attrsOk xs)) ∧ Below w.heap.size w w' := by
  have HX := Aside0.mk hx
  have HCp := Aside0.mk hc
  have HL := Aside0.mk hx.2.1
  have hu48 := Tryz.underlying39
  have hmf : ∀ (fn : Fn) (first cap : Array Value) (w : World), (Instr.makeFunc fn first cap).run Tryz.prog w = .ok (.func fn first cap) w := fun _ _ _ _ => rfl
  clear hx hc
  go_enter Tryz.func175, Tryz.ntmps175
  go_wp2
  go_loopw [8] (fun i wr => ∃ k : Nat, k ≤ xs.length ∧ i = .int .i64 k ∧ Aside0 (okA xs k = true) ∧ Aside0 (Below w.heap.size w wr))
    (fun i _ => xs.length - (RowKit.intOf i).toNat)
  case atStart => exact ⟨0, Nat.zero_le _, rfl, ⟨rfl⟩, ⟨Below.refl _ _⟩⟩
  case round =>
    obtain ⟨k, hk, rfl, HN, HB⟩ := hrel
    have hm := HL.out
    by_cases hlt : k < xs.length
    · obtain ⟨ad, e, h0, h1⟩ := at_T39 HX.out (k : Int) (by omega) (by omega)
      cases e
      replace h0 := pw_cell_below HB.out h0
      replace h1 := pw_cell_below HB.out h1
      simp only [Int.toNat_natCast] at h0 h1
      obtain ⟨x, hxx⟩ : ∃ x, rd_T39 xs (k : Int) = x := ⟨_, rfl⟩
      rw [hxx] at h0 h1
      have HX1 := Aside0.mk (show xs[k]? = some x by rw [← hxx]; simp [rd_T39, List.getD_eq_getElem?_getD, List.getElem?_eq_getElem hlt])
      clear hxx
      by_cases hz : x.f0.toList = []
      · have hz1 : x.f0.toList.isEmpty = true := by rw [hz]; rfl
        have HZ := Aside0.mk hz
        clear hz
        go_wp2
        go_ret
        have hf : okA xs (k + 1) = false := by rw [okA, HX1.out]; simp [HZ.out]
        refine ⟨?_, HB.out.alloc HB.out.size _⟩
        unfold attrsOk
        rw [okA_false xs (k + 1) xs.length hlt hf]; rfl
      · have hz1 : x.f0.toList.isEmpty = false := by simpa using hz
        have HZ := Aside0.mk hz
        clear hz
        obtain ⟨i0, hi0, _⟩ := Option.map_eq_some_iff.1 info39
        have hsl := take_run (P := Tryz.prog) 35 39 .i64 Tryz.underlying35 hi0 (some ad) xs.length c k (by have := HCp.out; omega)
        have hl : (xs.take k).length = k := by rw [List.length_take]; omega
        have HK := Aside0.mk (contains_calls (xs.take k) (some ad) c x.f0 ⟨wr.heap.size, 0, none⟩ (wr.alloc (.cells #[.string x.f0, .string x.f1] 39)) (Kd.C_alloc (Kd.C_below (Kd.C_take HX.out hk) HB.out) _) (by rw [blk_cell (heap_alloc_new wr _)]; rfl))
        rw [hl] at HK
        have HA := Aside0.mk (HB.out.alloc HB.out.size (.cells #[.string x.f0, .string x.f1] 39))
        clear hl hi0 
        by_cases hq : has x.f0 (xs.take k) = true
        · rw [hq] at HK
          have HQ := Aside0.mk hq
          clear hq
          go_wp2_with (go_at_call 205; refine HK.out.mono ?_; rintro e w2 ⟨rfl, hb2⟩)
          go_wp2
          go_ret
          have hf : okA xs (k + 1) = false := by rw [okA, HX1.out]; simp [HQ.out]
          refine ⟨?_, HA.out.trans (hb2.mono HA.out.size)⟩
          unfold attrsOk
          rw [okA_false xs (k + 1) xs.length hlt hf]; rfl
        · have hq : has x.f0 (xs.take k) = false := by simpa using hq
          rw [hq] at HK
          have HQ := Aside0.mk hq
          clear hq
          go_wp2_with (go_at_call 205; refine HK.out.mono ?_; rintro e w2 ⟨rfl, hb2⟩)
          have HB2 := Aside0.mk (HA.out.trans (hb2.mono HA.out.size))
          have HN2 := Aside0.mk (show okA xs (k + 1) = true by rw [okA, HX1.out, HN.out]; simp [HQ.out, HZ.out])
          clear hb2
          go_wp2
          go_roundw
          case rel => exact ⟨k + 1, by omega, by go_num, HN2, HB2⟩
          case measure => simp [RowKit.intOf]; omega
    · have HN2 := Aside0.mk (show okA xs xs.length = true by have := HN.out; rwa [show k = xs.length by omega] at this)
      go_wp2
      go_ret
      refine ⟨?_, HB.out⟩
      unfold attrsOk
      rw [HN2.out]
      rw [Bool.true_and, show decide (xs.length ≤ 32) = decide ((xs.length : Int) ≤ 32) from decide_eq_decide.mpr (by omega)]
      first | rfl | (congr 2; rw [decide_eq_decide]; omega)
def mayB (t : S41) : Bool :=
  if t.f0 = 1 then !t.f1.toList.isEmpty && t.f2.toList.isEmpty && attrsOk t.f3
  else if t.f0 = 2 then !t.f1.toList.isEmpty && t.f2.toList.isEmpty && t.f3.isEmpty && !t.f4
  else if t.f0 = 0 ∨ t.f0 = 3 then t.f1.toList.isEmpty && t.f3.isEmpty && !t.f4
  else false
set_option maxHeartbeats 1600000 in
theorem may_calls (k : Int) (nm tx : ByteArray) (l : List S39) (b : Bool) (p : Addr) (A : Option Addr) (c : Nat) (w : World)
    (h0 : w.cell? p = some (.int .i64 k)) (h1 : w.cell? ⟨p.block, p.off + 1, none⟩ = some (.string nm)) (h2 : w.cell? ⟨p.block, p.off + 2, none⟩ = some (.string tx)) (h3 : w.cell? ⟨p.block, p.off + 3, none⟩ = some (.slice A l.length c)) (h4 : w.cell? ⟨p.block, p.off + 4, none⟩ = some (.bool b))
    (hl : l.length ≤ c) (hC : Kd.C k39 w A l.length l) :
    Calls Tryz.prog 120 #[.pointer (some p)] w fun e w' => e = .returned (.bool (mayB ⟨k, nm, tx, l, b⟩)) ∧ Below w.heap.size w w' := by
  have HA := Aside0.mk (attrs_calls l A c w hC hl)
  have HB := Aside0.mk (Below.refl w.heap.size w)
  clear hC hl
  have hne : ∀ x : List UInt8, (x == []) = x.isEmpty := fun x => by cases x <;> rfl
  obtain ⟨v, hv⟩ : ∃ v, mayB ⟨k, nm, tx, l, b⟩ = v := ⟨_, rfl⟩
  rw [hv]
  have HV := Aside0.mk hv
  clear hv
  unfold mayB at HV
  simp only [] at HV
  obtain ⟨en, hen⟩ : ∃ e, nm.toList.isEmpty = e := ⟨_, rfl⟩
  obtain ⟨et, het⟩ : ∃ e, tx.toList.isEmpty = e := ⟨_, rfl⟩
  rw [hen, het] at HV
  by_cases k1 : k = 1
  · subst k1
    rw [if_pos rfl] at HV
    cases en <;> cases et <;>
    · go_enter Tryz.func120, Tryz.ntmps120
      go_wp2_with (go_at_call 175; refine HA.out.mono ?_; rintro e w2 ⟨rfl, hb2⟩)
      go_ret
      first | exact ⟨by rw [← HV.out]; rfl, hb2⟩ | exact ⟨by rw [← HV.out]; rfl, HB.out⟩
  by_cases k2 : k = 2
  · subst k2
    rw [if_neg (by decide), if_pos rfl] at HV
    cases l <;> cases en <;> cases et <;>
    · go_enter Tryz.func120, Tryz.ntmps120
      go_wp2
      go_ret
      exact ⟨by rw [← HV.out]; rfl, HB.out⟩
  by_cases k0 : k = 0
  · subst k0
    rw [if_neg (by decide), if_neg (by decide), if_pos (.inl rfl)] at HV
    cases l <;> cases en <;>
    · go_enter Tryz.func120, Tryz.ntmps120
      go_wp2
      go_ret
      exact ⟨by rw [← HV.out]; rfl, HB.out⟩
  by_cases k3 : k = 3
  · subst k3
    rw [if_neg (by decide), if_neg (by decide), if_pos (.inr rfl)] at HV
    cases l <;> cases en <;>
    · go_enter Tryz.func120, Tryz.ntmps120
      go_wp2
      go_ret
      exact ⟨by rw [← HV.out]; rfl, HB.out⟩
  rw [if_neg k1, if_neg k2, if_neg (by rintro (h | h); exact k0 h; exact k3 h)] at HV
  have b0 : (k == 0) = false := by simpa using k0
  have b1 : (k == 1) = false := by simpa using k1
  have b2 : (k == 2) = false := by simpa using k2
  have b3 : (k == 3) = false := by simpa using k3
  clear k0 k1 k2 k3
  go_enter Tryz.func120, Tryz.ntmps120
  go_wp2
  go_ret
  exact ⟨by rw [← HV.out]; rfl, HB.out⟩
end Go.Proofs.YtfmcdlbbbmeolaaGreatDoor.Tr
end
section
namespace Go.Proofs.YtfmcdlbbbmeolaaGreatDoor.Tr
open Go.RowKit Go.Proofs.YtfmcdlbbbmeolaaGreatDoor.XK Go.Proofs.YtfmcdlbbbmeolaaGreatDoorW.PrintWords Go.Proofs.YtfmcdlbbbmeolaaGreatDoorW.PrintLast Go.Proofs.YtfmcdlbbbmeolaaGreatDoorW.PrintMore
attribute [local go_sem ↓] Go.wp_at_zero Go.wp_at_succ
set_option linter.unusedVariables false
set_option linter.unusedSimpArgs false
theorem infoNode : (Tryz.prog.info? 69).map (fun i => (i.zero, i.size, i.bytes)) = some (some (.agg #[(.int .i64 0), (.string ⟨#[]⟩), (.string ⟨#[]⟩), (.slice none 0 0), (.int .i64 0)]), 5, 72) := by kernel_rfl
theorem infoInt : (Tryz.prog.info? 3).map (fun i => (i.zero, i.size, i.bytes)) = some (some (.int .i64 0), 1, 8) := by kernel_rfl
theorem grown_cell {w w1 : World} {row : Option Nat} {g t : Nat} {cs : Array Value} (hg : w.grownBy w1 row) (h : w.heap[g]? = some (.cells cs t (0, 0))) (hne : some g ≠ row) (j : Nat) : w1.cell? ⟨g, j, none⟩ = cs[j]? := blk_cell (blk_grown h hg hne) j
def Bd (T : Nat) (w : World) (base b : Nat) (ok : Nat → Prop) (ns : List S69) (op : List Int) : Prop :=
  base ≤ b ∧ ∃ v0 v1, w.heap[b]? = some (.cells #[v0, v1] T (0, 0)) ∧ Kd.S k69 69 w base ok v0 ns ∧ Kd.R (Kd.int .i64) 3 w base (fun _ => True) v1 op
section
variable {T : Nat} {w w1 : World} {base b : Nat} {ok : Nat → Prop} {ns : List S69} {op : List Int}
theorem Bd.below (h : Bd T w base b ok ns op) (hb : Below w.heap.size w w1) : Bd T w1 base b ok ns op := by
  obtain ⟨h0, v0, v1, h1, h2, h3⟩ := h
  exact ⟨h0, v0, v1, (hb.block b (blk_lt h1)).trans h1, Kd.S_below h2 hb, Kd.R_below h3 hb⟩
theorem Bd.drewN (h : Bd T w base b ok ns op) (n : Nat) : Bd T (w.drewN n) base b ok ns op := h.below (pw_below_drewN (Below.refl _ _) n)
end
theorem Bd.alloc {T : Nat} {w : World} {base b : Nat} {ok : Nat → Prop} {ns : List S69} {op : List Int} (h : Bd T w base b ok ns op) (o : Obj) : Bd T (w.alloc o) base b ok ns op := h.below (below_alloc (Below.refl _ _) o)
theorem Bd.far {T : Nat} {w W : World} {base b g j : Nat} {ok : Nat → Prop} {ns : List S69} {op : List Int} {u : Value} (h : Bd T w base b ok ns op) (hb : Below w.heap.size w W) (hg : w.heap.size ≤ g) : Bd T (W.setCell ⟨g, j, none⟩ u) base b ok ns op := by
  have hb' : Below w.heap.size w (W.setCell ⟨g, j, none⟩ u) := hb.setCell hg u
  exact h.below hb'
def lastOf (op : List Int) : Int := op.getLast?.getD 0
theorem last_rd (op : List Int) (h : op ≠ []) : rd op ((op.length : Int) - 1) = lastOf op := by
  unfold rd lastOf
  have hl : 0 < op.length := List.length_pos_iff.2 h
  rw [show ((op.length : Int) - 1).toNat = op.length - 1 by omega, List.getD_eq_getElem?_getD, List.getLast?_eq_getElem?]
set_option maxHeartbeats 1600000 in
theorem inner_calls (w : World) (base b : Nat) (ok : Nat → Prop) (ns : List S69) (op : List Int) (hI : Bd 132 w base b ok ns op) (hop : op ≠ []) (hlen : op.length ≤ 4611686018427387904) :
    Calls Tryz.prog 176 #[.pointer (some ⟨b, 0, none⟩)] w fun e w' => e = .returned (.int .i64 (lastOf op)) ∧ Drawn0 w w' := by
  obtain ⟨h0, v0, v1, h1, h2, h3⟩ := hI
  obtain ⟨A, c, rfl, hc, hr⟩ := Kd.R_reads h3
  have g1 : w.cell? ⟨b, 1, none⟩ = some (.slice A op.length c) := (blk_cell h1 1).trans rfl
  have hl : 0 < op.length := List.length_pos_iff.2 hop
  obtain ⟨ad, e, hx⟩ := Kd.at_int hr ((op.length : Int) - 1) (by omega) (by omega)
  cases e
  have HL := Aside0.mk (last_rd op hop)
  rw [HL.out] at hx
  obtain ⟨j, hj⟩ : ∃ j : Int, (op.length : Int) - 1 = j := ⟨_, rfl⟩
  rw [hj] at hx
  have hw : IntKind.i64.wrap ((op.length : Int) - 1) = j := by rw [← hj]; exact IntWalk.i64_in _ (by omega)
  have p0 : (0 ≤ j) = True := eq_true (by omega)
  have p1 : (j < (op.length : Int)) = True := eq_true (by omega)
  clear h0 h1 h2 h3 hr hop hj hl hlen
  go_enter Tryz.func176, Tryz.ntmps176
  go_wp2
  repeat (go_quiet (fail); try go_wp2)
  go_ret
  exact ⟨rfl, by repeat (first | exact Drawn0.refl _ | apply Drawn0.step)⟩
set_option maxHeartbeats 3200000 in
set_option maxRecDepth 100000 in
theorem node_calls (w0 w : World) (b : Nat) (okp : Nat → Prop) (ns : List S69) (op : List Int) (k p : Int) (nm tx : ByteArray) (va : Value) (ats : List S39)
    (hB : Below w0.heap.size w0 w) (hI : Bd 132 w w0.heap.size b (fun k => ¬ okp k) ns op) (hva : Kd.R k39 39 w w0.heap.size okp va ats) (hop : op ≠ []) (hlen : op.length ≤ 4611686018427387904) (hns : ns.length ≤ 4611686018) :
    Calls Tryz.prog 122 #[.pointer (some ⟨b, 0, none⟩), .agg #[.int .i64 k, .string nm, .string tx, va, .int .i64 p]] w fun e w' => e = .returned (.tuple #[]) ∧
      Bd 132 w' w0.heap.size b (fun _ => True) (ns ++ [⟨k, nm, tx, ats, lastOf op⟩]) op ∧ Below w0.heap.size w0 w' := by
  have HIn := Aside0.mk (inner_calls (w.alloc (.cells #[.int .i64 k, .string nm, .string tx, va, .int .i64 p] 69)) w0.heap.size b _ ns op (hI.alloc _) hop hlen)
  have HB := Aside0.mk hB
  have HI := Aside0.mk hI
  have HV := Aside0.mk hva
  obtain ⟨va1, va2, eva⟩ := Kd.R_slice hva
  subst eva
  clear hI hB hva hop
  go_enter Tryz.func122, Tryz.ntmps122
  go_wp2_with (go_at_call 176; refine HIn.out.mono ?_; rintro e w1 ⟨rfl, ⟨m, rfl⟩⟩)
  obtain ⟨w2, hw2⟩ : ∃ w2, ((w.alloc (.cells #[.int .i64 k, .string nm, .string tx, .slice va1 ats.length va2, .int .i64 p] 69)).drewN m).setCell ⟨w.heap.size, 4, none⟩ (.int .i64 (lastOf op)) = w2 := ⟨_, rfl⟩
  rw [hw2]
  have hlow : Below w.heap.size w w2 := by rw [← hw2]; exact (pw_below_drewN ((Below.refl _ _).alloc (Nat.le_refl _) _) m).setCell (Nat.le_refl _) _
  have hg : w2.heap[w.heap.size]? = some (.cells #[.int .i64 k, .string nm, .string tx, .slice va1 ats.length va2, .int .i64 (lastOf op)] 69 (0, 0)) := by
    rw [← hw2]; exact blk_set (t := 69) (cs := #[.int .i64 k, .string nm, .string tx, .slice va1 ats.length va2, .int .i64 p]) (by simpa using heap_alloc_new w _) 4 _
  have HG := Aside0.mk hg
  have HI2 := Aside0.mk (HI.out.below hlow)
  have HV2 := Aside0.mk (Kd.R_below HV.out hlow)
  have HB2 := Aside0.mk (HB.out.trans (hlow.mono HB.out.size))
  obtain ⟨g, hgg⟩ : ∃ g, w.heap.size = g := ⟨_, rfl⟩
  rw [hgg] at HG ⊢
  have HGE := Aside0.mk (show w0.heap.size ≤ g by rw [← hgg]; exact HB.out.size)
  have HNE := Aside0.mk (show ∀ v0 : Value × Value, w2.heap[b]? = some (.cells #[v0.1, v0.2] 132 (0, 0)) → some g ≠ v0.1.ownBlock by
    rintro ⟨x0, x1⟩ h e
    obtain ⟨_, y0, y1, h1, h2, _⟩ := HI.out
    have h1' := (hlow.block b (blk_lt h1)).trans h1
    rw [h] at h1'
    have e2 : x0 = y0 := by injection h1' with h1'; injection h1' with h1'; exact Option.some.inj (congrArg (fun a : Array Value => a[0]?) h1')
    subst e2
    have := Kd.S_lt h2 g e.symm
    omega)
  clear hw2 hlow hg HI HV HB HIn hgg
  obtain ⟨hb0, v0, v1, hb1, hs, hr⟩ := HI2.out
  have HB1 := Aside0.mk hb1
  have HS := Aside0.mk hs
  have HR := Aside0.mk hr
  have HB0 := Aside0.mk hb0
  have c0 : w2.cell? ⟨b, 0, none⟩ = some v0 := (blk_cell hb1 0).trans rfl
  have d0 : w2.cell? ⟨g, 0, none⟩ = some (.int .i64 k) := (blk_cell HG.out 0).trans rfl
  have d1 : w2.cell? ⟨g, 1, none⟩ = some (.string nm) := (blk_cell HG.out 1).trans rfl
  have d2 : w2.cell? ⟨g, 2, none⟩ = some (.string tx) := (blk_cell HG.out 2).trans rfl
  have d3 : w2.cell? ⟨g, 3, none⟩ = some (.slice va1 ats.length va2) := (blk_cell HG.out 3).trans rfl
  have d4 : w2.cell? ⟨g, 4, none⟩ = some (.int .i64 (lastOf op)) := (blk_cell HG.out 4).trans rfl
  have HN0 := Aside0.mk (HNE.out (v0, v1) hb1)
  have HBV := Aside0.mk (show some b ≠ v0.ownBlock from Kd.S_ne hs hb1 (by decide))
  clear hb0 hb1 hs hr HI2 HNE
  refine start_ (n := 11) (S := fun w' => w'.cell? ⟨b, 0, none⟩ = some v0 ∧ w'.cell? ⟨g, 0, none⟩ = some (.int .i64 k) ∧ w'.cell? ⟨g, 1, none⟩ = some (.string nm) ∧ w'.cell? ⟨g, 2, none⟩ = some (.string tx) ∧ w'.cell? ⟨g, 3, none⟩ = some (.slice va1 ats.length va2) ∧ w'.cell? ⟨g, 4, none⟩ = some (.int .i64 (lastOf op))) (ds := [10]) #[false, false, false, false, false, false, false, false, false, false, false] (by kernel_rfl) rfl rfl ⟨c0, d0, d1, d2, d3, d4⟩ (fun hHeld => ?_)
  refine pS 0 7 #[true, false, false, false, false, false, false, false, false, false, false] ?_
  refine pS 1 8 #[true, true, false, false, false, false, false, false, false, false, false] ?_
  refine pS 2 9 #[true, true, true, false, false, false, false, false, false, false, false] ?_
  refine pS 3 10 #[true, true, true, true, false, false, false, false, false, false, false] ?_
  refine take_ (i := 4) (N := some 11) (v := ?_) (a' := ?_) #[true, true, true, true, true, false, false, false, false, false, false] rfl rfl (by kernel_rfl) (fun _ _ _ h => h) (Or.inl ⟨by rfl, ?_⟩) hHeld ?_ ?_
  rotate_left
  · rintro w' ⟨s0, s1, s2, s3, s4, s5⟩
    go_simp
    with_reducible rfl
  rotate_left
  · simp only [Act.put, zA, zZ, zS, i64_w, i32_w]
    rfl
  refine take_ (i := 5) (N := some 12) (v := ?_) (a' := ?_) #[true, true, true, true, true, true, false, false, false, false, false] rfl rfl (by kernel_rfl) (fun _ _ _ h => h) (Or.inl ⟨by rfl, ?_⟩) hHeld ?_ ?_
  rotate_left
  · rintro w' ⟨s0, s1, s2, s3, s4, s5⟩
    go_simp
    with_reducible rfl
  rotate_left
  · simp only [Act.put, zA, zZ, zS, i64_w, i32_w]
    rfl
  refine one_ (i := 6) (N := some 13) #[true, true, true, true, true, true, true, false, false, false, false] rfl rfl (by kernel_rfl) (by decide) (fun K hK => ?_)
  refine value_ (w1 := ?_) (v := ?_) (by rfl) rfl ?_ ?_
  rotate_left 2
  · go_simp
    constructor
    · rfl
    · rfl
  refine hK.out _ _ ⟨(cell_alloc (w := w2.drew) c0 _), (cell_alloc (w := w2.drew) d0 _), (cell_alloc (w := w2.drew) d1 _), (cell_alloc (w := w2.drew) d2 _), (cell_alloc (w := w2.drew) d3 _), (cell_alloc (w := w2.drew) d4 _)⟩ (fun hHeld => ?_)
  clear hK K
  refine norm_ (a' := ?_) ?_ ?_
  rotate_left
  · show Act.put _ (some 13) _ = _
    simp only [Act.put, zA, zZ, zS, i64_w, i32_w]
    rfl
  refine one_ (i := 7) (N := some 14) #[true, true, true, true, true, true, true, true, false, false, false] rfl rfl (by kernel_rfl) (by decide) (fun K hK => ?_)
  refine Kd.S_append_step k69 (w0 := w0) (W := w2.drew) w0.heap.size (by rfl) (.tmp 11) (.tmp 13) 49 69 (.agg #[(.int .i64 0), (.string ⟨#[]⟩), (.string ⟨#[]⟩), (.slice none 0 0), (.int .i64 0)]) 72 (by rfl) Tryz.underlying49 infoNode (by rfl) (by decide) (by decide) v0 ns ⟨k, nm, tx, ats, lastOf op⟩ [.int .i64 k, .string nm, .string tx, .slice va1 ats.length va2, .int .i64 (lastOf op)] (fun _ => True) okp (by rfl) (by rfl) (k69_mkM _ _ _ (⟨k, nm, tx, ats, lastOf op⟩ : S69) (Kd.R_drew HV2.out)) (fun q hq => ⟨trivial, fun e => (Kd.S_R HS.out).1 q e.symm hq⟩) (fun _ _ => trivial) (Kd.S_mono (Kd.S_drew HS.out) (fun _ h => ⟨trivial, h⟩)) (below_drew HB2.out) (below_drew HB2.out).size (by omega) ?_
  intro v9 w9 hS9 hB9 hgr hat
  obtain ⟨A9, c9, e9⟩ := Kd.S_slice hS9
  rw [List.length_append, List.length_singleton] at e9
  subst e9
  have b9 : w9.heap[b]? = some (.cells #[v0, v1] 132 (0, 0)) := blk_grown (w := w2.drew) HB1.out hgr HBV.out
  have c9' : w9.cell? ⟨b, 0, none⟩ = some v0 := (blk_cell b9 0).trans rfl
  have f9 : w9.frozen? ⟨b, 0, none⟩ = false := blk_frozen b9 0
  refine hK.out _ _ ⟨c9', (grown_cell (w := w2.drew) hgr HG.out HN0.out 0), (grown_cell (w := w2.drew) hgr HG.out HN0.out 1), (grown_cell (w := w2.drew) hgr HG.out HN0.out 2), (grown_cell (w := w2.drew) hgr HG.out HN0.out 3), (grown_cell (w := w2.drew) hgr HG.out HN0.out 4)⟩ (fun hHeld => ?_)
  clear hK K
  refine norm_ (a' := ?_) ?_ ?_
  rotate_left
  · show Act.put _ (some 14) _ = _
    simp only [Act.put, zA, zZ, zS, i64_w, i32_w]
    rfl
  refine pS 8 15 #[true, true, true, true, true, true, true, true, true, false, false] ?_
  refine pS 9 16 #[true, true, true, true, true, true, true, true, true, true, false] ?_
  refine last_ (i := 10) (N := none) #[true, true, true, true, true, true, true, true, true, true, true] rfl rfl (by kernel_rfl) (by decide) (fun K hK => ?_)
  refine skip_ (w1 := ?_) (by rfl) rfl ?_ ?_
  rotate_left
  · go_simp
    rfl
  refine hK.out _ _ ?_
  clear hK K
  refine done_ (by kernel_rfl) ?_
  go_end0
  refine ⟨rfl, ⟨HB0.out, _, v1, blk_set b9 0 _, Kd.S_set hS9 b9 (by decide) 0 _, Kd.R_set (Kd.R_over' (Kd.R_drew HR.out) (fun q hq => Kd.S_typed HS.out q hq) (by decide) hgr) b9 (by decide) 0 _⟩, hB9.setCell HB0.out _⟩
theorem S_at {W : World} {base : Nat} {ok : Nat → Prop} {v : Value} {ns : List S69} (h : Kd.S k69 69 W base ok v ns) (i : Nat) (hi : i < ns.length) :
    ∃ g cap A3 c3, v = .slice (some ⟨g, 0, none⟩) ns.length cap ∧ base ≤ g ∧ g < W.heap.size ∧ (∃ cells, W.heap[g]? = some (.cells cells 69 (0, 0))) ∧
      W.cell? ⟨g, i * 5, none⟩ = some (.int .i64 ns[i].f0) ∧ W.cell? ⟨g, i * 5 + 1, none⟩ = some (.string ns[i].f1) ∧ W.cell? ⟨g, i * 5 + 2, none⟩ = some (.string ns[i].f2) ∧ W.cell? ⟨g, i * 5 + 3, none⟩ = some (.slice A3 ns[i].f3.length c3) ∧ W.cell? ⟨g, i * 5 + 4, none⟩ = some (.int .i64 ns[i].f4) ∧
      (∀ j, W.frozen? ⟨g, i * 5 + j, none⟩ = false) ∧
      ∀ s : ByteArray, Kd.S k69 69 (W.setCell ⟨g, i * 5 + 2, none⟩ (.string s)) base ok v (ns.set i ⟨ns[i].f0, ns[i].f1, s, ns[i].f3, ns[i].f4⟩) ∧ W.grownBy (W.setCell ⟨g, i * 5 + 2, none⟩ (.string s)) (some g) := by
  obtain ⟨g, cap, rfl, hb, hl, hc⟩ := Kd.S_form h (by omega)
  obtain ⟨oki, c, hcl, hM, hcc, hfr, hok, hH⟩ := Kd.S_elem h z69 (i : Int) (by omega) (by omega)
  have hx : ns.getD (i : Int).toNat z69 = ns[i] := by simp [List.getD_eq_getElem?_getD, List.getElem?_eq_getElem hi]
  rw [hx] at hM
  obtain ⟨v3, rfl, hv3⟩ := k69_openM hM
  obtain ⟨A3, c3, rfl, _, _⟩ := Kd.R_reads hv3
  refine ⟨g, cap, A3, c3, rfl, hb, hl, hc, hcc 0 _ rfl, hcc 1 _ rfl, hcc 2 _ rfl, hcc 3 _ rfl, hcc 4 _ rfl, fun j => hfr j, fun s => ?_⟩
  have hS := Kd.S_seg (okg := fun _ => False) (ok := ok) (seg := [.string s]) (j := 2) (x' := (⟨ns[i].f0, ns[i].f1, s, ns[i].f3, ns[i].f4⟩ : S69)) (okp := oki) (Kd.H_mono hH (fun k hk => ⟨hk, fun h => h⟩)) (by omega) (by omega) (show 3 ≤ 5 by decide)
    (k69_mkM _ _ _ (⟨ns[i].f0, ns[i].f1, s, ns[i].f3, ns[i].f4⟩ : S69) hv3) (fun k hk => .inl hk) (fun _ hk => hk.elim)
  exact hS
theorem quiet_drawn2 {P : Program} {f : FuncId} {args : Array Value} {w : World} {a n : Nat} {v : Value} (h : Calls P f args (w.drewN (a + n)) fun e w' => e = .returned v ∧ Drawn0 (w.drewN (a + n)) w') : Calls P f args (w.drewN (a + n)) fun e w'' => e = .returned v ∧ ∃ m, w'' = w.drewN (a + m) :=
  h.mono fun _ _ ⟨he, ⟨⟨m, hm⟩⟩⟩ => ⟨he, n + m, by rw [hm, World.drewN_drewN, Nat.add_assoc]⟩
theorem Bd.mono {T : Nat} {w : World} {base b : Nat} {ok ok' : Nat → Prop} {ns : List S69} {op : List Int} (h : Bd T w base b ok ns op) (hok : ∀ k, ok k → ok' k) : Bd T w base b ok' ns op := by
  obtain ⟨h0, v0, v1, h1, h2, h3⟩ := h
  exact ⟨h0, v0, v1, h1, Kd.S_mono h2 hok, h3⟩
def textF (ns : List S69) (op : List Int) (s : ByteArray) : List S69 :=
  match ns.getLast? with
  | some l => if l.f0 = 2 ∧ l.f4 = lastOf op then ns.set (ns.length - 1) ⟨l.f0, l.f1, l.f2 ++ s, l.f3, l.f4⟩ else if s.toList = [] then ns else ns ++ [⟨2, ⟨#[]⟩, s, [], lastOf op⟩]
  | none => ns
set_option maxHeartbeats 3200000 in
set_option maxRecDepth 100000 in
theorem text_calls (w0 w : World) (b : Nat) (ns : List S69) (op : List Int) (s : ByteArray)
    (hB : Below w0.heap.size w0 w) (hI : Bd 132 w w0.heap.size b (fun _ => True) ns op) (hn : ns ≠ []) (hop : op ≠ []) (hlen : op.length ≤ 4611686018427387904) (hns : ns.length ≤ 4611686018)
    (hsz : ∀ l ∈ ns.getLast?, l.f2.size + s.size ≤ 9223372036854775807) :
    Calls Tryz.prog 121 #[.pointer (some ⟨b, 0, none⟩), .string s] w fun e w' => e = .returned (.tuple #[]) ∧
      Bd 132 w' w0.heap.size b (fun _ => True) (textF ns op s) op ∧ Below w0.heap.size w0 w' := by
  have HIn := Aside0.mk (fun m => inner_calls (w.drewN m) w0.heap.size b _ ns op (hI.drewN m) hop hlen)
  have HNo := Aside0.mk (fun m => node_calls w0 (w.drewN m) b (fun _ => False) ns op 2 0 ⟨#[]⟩ s (.slice none 0 0) [] (pw_below_drewN hB m) ((hI.drewN m).mono (fun _ _ h => h)) (Kd.R_nil _ _ _ _ _) hop hlen hns)
  obtain ⟨hb0, v0, v1, hb1, hs, hr⟩ := hI
  have hl : 0 < ns.length := List.length_pos_iff.2 hn
  obtain ⟨g, cap, A3, c3, rfl, hg0, hg1, hg2, x0, x1, x2, x3, x4, hf, hst⟩ := S_at hs (ns.length - 1) (by omega)
  obtain ⟨l, hl'⟩ : ∃ l, ns[ns.length - 1]'(by omega) = l := ⟨_, rfl⟩
  rw [hl'] at x0 x1 x2 x3 x4 hst
  have hget : ns.getLast? = some l := by rw [List.getLast?_eq_getElem?, List.getElem?_eq_getElem (by omega), hl']
  have hsz' := hsz l (by rw [hget]; rfl)
  have c0 : w.cell? ⟨b, 0, none⟩ = some (.slice (some ⟨g, 0, none⟩) ns.length cap) := (blk_cell hb1 0).trans rfl
  have HT := Aside0.mk (show textF ns op s = _ by unfold textF; rw [hget])
  have HS := Aside0.mk hs
  have HST := Aside0.mk hst
  have HR := Aside0.mk hr
  have HB := Aside0.mk hB
  have HB0 := Aside0.mk hb0
  have HB1 := Aside0.mk hb1
  have HG0 := Aside0.mk hg0
  have HF := Aside0.mk hf
  obtain ⟨cells, hcells⟩ := hg2
  have HCE := Aside0.mk hcells
  have HNB := Aside0.mk (show g ≠ b from blk_ne hcells hb1 (by decide))
  obtain ⟨j, hj⟩ : ∃ j : Int, (ns.length : Int) - 1 = j := ⟨_, rfl⟩
  have hw : IntKind.i64.wrap ((ns.length : Int) - 1) = j := by rw [← hj]; exact IntWalk.i64_in _ (by omega)
  have p0 : (0 ≤ j) = True := eq_true (by omega)
  have p1 : (j < (ns.length : Int)) = True := eq_true (by omega)
  have hjn : ns.length - 1 = j.toNat := by omega
  rw [hjn] at x0 x1 x2 x3 x4 HST HF
  have hu := Tryz.underlying69
  clear hs hst hr hB hb0 hb1 hg0 hg1 hcells hf hl' hget hsz hj hn hop hl
  by_cases k2 : l.f0 = 2
  · rw [k2] at x0
    by_cases k4 : l.f4 = lastOf op
    · rw [k4] at x4
      have HT2 := Aside0.mk (HT.out.trans (if_pos ⟨k2, k4⟩))
      clear k2 k4 HT HNo
      go_enter Tryz.func121, Tryz.ntmps121
      go_wp2
      go_quiet (fail)
      go_wp2
      go_quiet ((go_at_call 176; exact quiet_drawn2 (HIn.out _)))
      have hf2 := HF.out 2
      go_wp2
      go_end0
      rw [HT2.out, hjn]
      obtain ⟨q1, q2⟩ := HST.out (l.f2 ++ s)
      refine ⟨rfl, ⟨HB0.out, _, v1, blk_far (w := w.drewN _) HB1.out (Ne.symm HNB.out) _, Kd.S_step q1 (fun k _ _ => rfl), Kd.R_set (Kd.R_drewN HR.out _) HCE.out (by decide) _ _⟩, (pw_below_drewN HB.out _).setCell HG0.out _⟩
    · have k4b : (l.f4 == lastOf op) = false := by simpa using k4
      have HT2 := Aside0.mk (HT.out.trans (if_neg (fun h => k4 h.2)))
      clear k4 HT
      by_cases hs : s.toList = []
      · have hse : s.toList.isEmpty = true := by rw [hs]; rfl
        have HT3 := Aside0.mk (HT2.out.trans (if_pos hs))
        clear hs HT2
        go_enter Tryz.func121, Tryz.ntmps121
        go_wp2
        go_quiet (fail)
        go_wp2
        go_quiet ((go_at_call 176; exact quiet_drawn2 (HIn.out _)))
        go_wp2
        go_end0
        rw [HT3.out]
        exact ⟨rfl, Bd.drewN ⟨HB0.out, _, v1, HB1.out, HS.out, HR.out⟩ _, pw_below_drewN HB.out _⟩
      · have hse : s.toList.isEmpty = false := by simpa using hs
        have HT3 := Aside0.mk (HT2.out.trans (if_neg hs))
        clear hs HT2
        go_enter Tryz.func121, Tryz.ntmps121
        go_wp2
        go_quiet (fail)
        go_wp2
        go_quiet ((go_at_call 176; exact quiet_drawn2 (HIn.out _)))
        go_wp2_with (go_at_call 122; refine (HNo.out _).mono ?_; rintro e w3 ⟨rfl, hbd, hbe⟩)
        go_end0
        rw [HT3.out]
        exact ⟨rfl, hbd, hbe⟩
  · have k2b : (l.f0 == 2) = false := by simpa using k2
    have HT2 := Aside0.mk (HT.out.trans (if_neg (fun h => k2 h.1)))
    clear k2 HT
    by_cases hs : s.toList = []
    · have hse : s.toList.isEmpty = true := by rw [hs]; rfl
      have HT3 := Aside0.mk (HT2.out.trans (if_pos hs))
      clear hs HT2
      go_enter Tryz.func121, Tryz.ntmps121
      go_wp2
      go_quiet (fail)
      go_wp2
      go_quiet (fail)
      go_wp2
      go_end0
      rw [HT3.out]
      exact ⟨rfl, Bd.drewN ⟨HB0.out, _, v1, HB1.out, HS.out, HR.out⟩ _, pw_below_drewN HB.out _⟩
    · have hse : s.toList.isEmpty = false := by simpa using hs
      have HT3 := Aside0.mk (HT2.out.trans (if_neg hs))
      clear hs HT2
      go_enter Tryz.func121, Tryz.ntmps121
      go_wp2
      go_quiet (fail)
      go_wp2
      go_quiet (fail)
      go_wp2_with (go_at_call 122; refine (HNo.out _).mono ?_; rintro e w3 ⟨rfl, hbd, hbe⟩)
      go_end0
      rw [HT3.out]
      exact ⟨rfl, hbd, hbe⟩
end Go.Proofs.YtfmcdlbbbmeolaaGreatDoor.Tr
end
