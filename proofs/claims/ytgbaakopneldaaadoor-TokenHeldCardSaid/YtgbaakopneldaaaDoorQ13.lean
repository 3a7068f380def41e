/- tok.Tokens as a machine of lists: what the walk's machine gives is what this one gives. The machine of lists: laws on its runs. tok.Tokens: walked. stolelaw0.SameAttrs, SameTokens: alike or not. tok.Tokens, stolelaw0.SameTokens in the print's form. Two short names, for long rows of true and false. Laid by xprint.py, a program of this session over the kit's print: for each Go function one Lean function of the same answers, and the walk that shows it. -/
import Derived.Test.YtgbaakopneldaaaDoorQ0
import Derived.Test.YtgbaakopneldaaaDoorQ12
import Derived.Test.YtgbaakopneldaaaDoorQ2
import Derived.KernelRfl
import Derived.Test.YtgbaakopneldaaaDoorQ4
import Derived.Test.YtgbaakopneldaaaDoorWMore
import Derived.Test.YtgbaakopneldaaaDoorProg
import Derived.Below
import Derived.Deep.Draws
import Derived.Deep.AppendLies
import Derived.Maps.AppendAt
import Derived.OwnWalk
import Derived.Laws.BytesArg
import Derived.Laws.MakeOwn
import Derived.Laws.OwnMore
import Derived.Deep.OwnRows
import Derived.Tactics
import Derived.Lib.ConvBytes
import Derived.Laws.Slices
import Derived.WalkKit
import Derived.RowKit3
import Derived.Deep.LoopGhost
import Derived.Deep.QuietTactic
import Derived.BigQuiet
import Derived.WideLaws
import Derived.Deep.DeepCutAuto
import Derived.Deep.CutBlock
import Derived.Deep.RegionHeld3
import Derived.Laws.Rows
import Derived.Lib.AppendStr
import Derived.ArgAppend
import Derived.Laws.IdiomCopy
import Derived.OrdersHeld
import Derived.Laws.BitsLemmas
import Derived.RowKit
import Derived.Test.YtgbaakopneldaaaDoorWWords
import Derived.Test.YtgbaakopneldaaaDoorWLast
import Derived.Test.YtgbaakopneldaaaDoorWTab
import Derived.Test.YtgbaakopneldaaaDoorWQPut
import Derived.Test.YtgbaakopneldaaaDoorWApart
import Derived.Test.YtgbaakopneldaaaDoorWArr
import Derived.Test.YtgbaakopneldaaaDoorWZeros
import Derived.Test.YtgbaakopneldaaaDoorWFoot
import Derived.Test.YtgbaakopneldaaaDoorWKept
import Derived.Test.YtgbaakopneldaaaDoorWShare
import Derived.Test.YtgbaakopneldaaaDoorWN
import Derived.Test.YtgbaakopneldaaaDoorWEqStruct
import Derived.Test.YtgbaakopneldaaaDoorWRepsOne
import Derived.Test.YtgbaakopneldaaaDoorWGuard
import Derived.Test.YtgbaakopneldaaaDoorWNEv
import Derived.Test.YtgbaakopneldaaaDoorQ1
section
namespace Go.Proofs.YtgbaakopneldaaaDoor.Tk
open Go.RowKit Go.Proofs.YtgbaakopneldaaaDoor.XK Go.Proofs.YtgbaakopneldaaaDoorW.PrintWords Go.Proofs.YtgbaakopneldaaaDoorW.PrintLast Go.Proofs.YtgbaakopneldaaaDoorW.PrintMore
open Go.Proofs.YtgbaakopneldaaaDoor.Refs (lowN decL)
open Go.Proofs.YtgbaakopneldaaaDoor.Ln (linesB linesL)
set_option linter.unusedVariables false
set_option linter.unusedSimpArgs false
set_option maxRecDepth 100000
def bts (l : List UInt8) : ByteArray := ⟨l.toArray⟩
theorem bts_data (l : List UInt8) : (bts l).data.toList = l := by unfold bts; simp
theorem bts_eq {s : ByteArray} {l : List UInt8} (h : s.data.toList = l) : s = bts l := Go.Proofs.YtgbaakopneldaaaDoor.Base.ext_list (by rw [h, bts_data])
structure Mc where
  st : St
  out : List S30
  buf : List UInt8
  pnd : List UInt8
  held : ByteArray
  ats : List S47
  cur : Option S47
def Mc.all (m : Mc) : List S47 := m.ats ++ m.cur.toList
def txtL (h : ByteArray) (b : List UInt8) : List S30 := match b with
  | [] => []
  | c :: l => [⟨0, ⟨#[]⟩, textV h (bts (c :: l)), [], false⟩]
def comL (s : St) (l : List UInt8) : List UInt8 := if s.pos = 17 then (l.drop 4).take (l.length - 6) else l.drop 2
def tagL (ats : List S47) (s : St) : S30 :=
  if s.pos = 22 then ⟨2, s.held, ⟨#[]⟩, [], false⟩ else if s.fin = true then ⟨2, s.name, ⟨#[]⟩, [], false⟩ else ⟨1, s.name, ⟨#[]⟩, keptR ats, s.pos == 12⟩
def more1 (v : ByteArray) (c : UInt8) : ByteArray := bts (v.data.toList ++ [c])
def attM (m : Mc) (nx : St) (c : UInt8) : List S47 × Option S47 :=
  if nx.pos = 3 then ([], none)
  else if nx.pos = 5 then (if m.st.pos = 5 then (m.ats, m.cur.map fun a => ⟨nx.attr, a.f1⟩) else (m.ats ++ m.cur.toList, some ⟨nx.attr, ⟨#[]⟩⟩))
  else if nx.pos = 10 then (m.ats, m.cur.map fun a => ⟨a.f0, if m.st.pos = 10 then more1 a.f1 c else bts [c]⟩)
  else if nx.pos = 8 ∨ nx.pos = 9 then (m.ats, m.cur.map fun a => ⟨a.f0, if m.st.pos = nx.pos then more1 a.f1 c else bts []⟩)
  else (m.ats, m.cur)
def stepM (m : Mc) (c : UInt8) : Mc :=
  let nx := stepS m.st c.toNat
  if c = 60 ∧ (nx.pos = 1 ∨ nx.pos = 20) then ⟨nx, m.out, m.buf ++ m.pnd, [c], m.held, m.ats, m.cur⟩
  else if c = 62 ∧ endsB m.st = true then ⟨nx, m.out ++ txtL m.held m.buf ++ [tagL m.all m.st], [], [], nx.held, m.ats, m.cur⟩
  else if c = 62 ∧ remarksB m.st = true then ⟨nx, m.out ++ txtL m.held m.buf ++ [⟨3, ⟨#[]⟩, bts (comL m.st m.pnd), [], false⟩], [], [], m.held, m.ats, m.cur⟩
  else ⟨nx, m.out, m.buf, m.pnd ++ [c], m.held, (attM m nx c).1, (attM m nx c).2⟩
def runM (m : Mc) (l : List UInt8) : Mc := l.foldl stepM m
def m0 : Mc := ⟨atS 0, [], [], [], ⟨#[]⟩, [], none⟩
def endM (m : Mc) : List S30 := m.out ++ txtL m.held (if restB m.st = true then m.buf ++ m.pnd else m.buf)
def tokensM (page : List UInt8) : List S30 × Int := if 65536 < page.length then ([], 500) else (endM (runM m0 (linesL page)), 0)
def sl (p : ByteArray) (a b : Nat) : List UInt8 := (p.data.toList.drop a).take (b - a)
theorem ext_sl (p : ByteArray) (a b : Nat) : p.extract a b = bts (sl p a b) := bts_eq (by rw [Lib.extract_data]; rfl)
theorem sl_self (p : ByteArray) (a : Nat) : sl p a a = [] := by unfold sl; rw [Nat.sub_self]; rfl
theorem sl_append (p : ByteArray) {a b c : Nat} (h1 : a ≤ b) (h2 : b ≤ c) : sl p a b ++ sl p b c = sl p a c := by
  unfold sl
  have h := List.take_append_drop (b - a) ((p.data.toList.drop a).take (c - a))
  rw [List.take_take, Nat.min_eq_left (by omega), List.drop_take, List.drop_drop] at h
  rw [show c - a - (b - a) = c - b by omega, show a + (b - a) = b by omega] at h
  exact h
theorem sl_snoc (p : ByteArray) {a i : Nat} (h1 : a ≤ i) (hi : i < p.data.toList.length) : sl p a (i + 1) = sl p a i ++ [p.data.toList[i]] := by
  rw [← sl_append p h1 (Nat.le_succ i)]
  congr 1
  unfold sl
  rw [List.drop_eq_getElem_cons hi, show i + 1 - i = 1 by omega]; rfl
theorem sl_one (p : ByteArray) {i : Nat} (hi : i < p.data.toList.length) : sl p i (i + 1) = [p.data.toList[i]] := by rw [sl_snoc p (Nat.le_refl i) hi, sl_self]; rfl
theorem sl_len (p : ByteArray) (a b : Nat) (h : b ≤ p.data.toList.length) : (sl p a b).length = b - a := by unfold sl; rw [List.length_take, List.length_drop]; omega
theorem rd_last (xs : List S47) (x : S47) : rd_T47 (xs ++ [x]) (((xs ++ [x]).length : Int) - 1) = x := by
  unfold rd_T47
  rw [List.length_append, List.length_singleton, show (((xs.length + 1 : Nat) : Int) - 1).toNat = xs.length by omega, List.getD_eq_getElem?_getD, List.getElem?_append_right (Nat.le_refl _), Nat.sub_self]
  rfl
theorem set_last (xs : List S47) (x y : S47) : (xs ++ [x]).set ((xs ++ [x]).length - 1) y = xs ++ [y] := by
  rw [List.length_append, List.length_singleton, Nat.add_sub_cancel, List.set_append_right _ _ (Nat.le_refl _), Nat.sub_self]; rfl
theorem setName_last (xs : List S47) (x : S47) (nm : ByteArray) : setName (xs ++ [x]) nm = xs ++ [⟨nm, x.f1⟩] := by unfold setName; rw [rd_last, set_last]
theorem setVal_last (xs : List S47) (x : S47) (v : ByteArray) : setVal (xs ++ [x]) v = xs ++ [⟨x.f0, v⟩] := by unfold setVal; rw [rd_last, set_last]
structure Rel (p : ByteArray) (i : Nat) (r : Rd) (s : St) (m : Mc) : Prop where
  st : m.st = s
  out : m.out = r.out
  held : m.held = r.held
  ats : r.ats = m.ats ++ m.cur.toList
  none : m.cur = none → m.ats = []
  tot : m.buf ++ m.pnd = sl p r.fr i
  pnd : s.pos ≠ 0 → s.pos ≠ 19 → m.pnd = sl p r.op i
  val : ∀ a, m.cur = some a → 8 ≤ s.pos → s.pos ≤ 10 → a.f1 = bts (sl p r.bg i)
theorem rel_start (p : ByteArray) : Rel p 0 rd0 (atS 0) m0 := ⟨rfl, rfl, rfl, rfl, fun _ => rfl, (sl_self p 0).symm, fun h => absurd rfl h, fun a h => by cases h⟩
theorem u8_eq (c : UInt8) (n : Nat) (h : n < 256) : c.toNat = n ↔ c = UInt8.ofNat n := by
  constructor
  · intro e; rw [← e, UInt8.ofNat_toNat]
  · intro e; rw [e]; show n % 256 = n; omega
theorem txt_eq (p : ByteArray) (r : Rd) (t : Nat) (b : List UInt8) (h : sl p r.fr t = b) : (textR p r t).out = r.out ++ txtL r.held b := by
  unfold textR
  rw [ext_sl, h, ByteArray.toList_eq, bts_data]
  cases b with
  | nil => show r.out = r.out ++ []; rw [List.append_nil]
  | cons c l => rw [if_neg (by simp)]; rfl
theorem byteAt_get (p : ByteArray) (i : Nat) (hi : i < p.data.toList.length) : byteAt p (i : Int) = (p.data.toList[i]).toNat := by
  unfold byteAt; rw [Int.toNat_natCast, List.getD_eq_getElem?_getD, List.getElem?_eq_getElem hi]; rfl
theorem rel_step {p : ByteArray} {i : Nat} {r : Rd} {s : St} {m : Mc} (hI : Inv p i r s) (h : Rel p i r s m) (hi : i < p.data.toList.length) {nx : St} (hnx : stepS s (byteAt p (i : Int)) = nx) (t : Tab s (byteAt p (i : Int)) nx) :
    Rel p (i + 1) (takesR p r s nx i) nx (stepM m (p.data.toList[i])) := by
  have hb := byteAt_get p i hi
  obtain ⟨c, hc⟩ : ∃ c, p.data.toList[i] = c := ⟨_, rfl⟩
  have hfr := hI.fr
  have hsn := sl_snoc p hfr hi
  rw [hc] at hb hsn ⊢
  rw [hb] at t hnx
  have hnx' : stepS m.st c.toNat = nx := by rw [h.st]; exact hnx
  have e60 : c.toNat = 60 ↔ c = 60 := u8_eq c 60 (by decide)
  have e62 : c.toNat = 62 ↔ c = 62 := u8_eq c 62 (by decide)
  unfold takesR stepM
  simp only [hnx', hb]
  by_cases c1 : c = 60 ∧ (nx.pos = 1 ∨ nx.pos = 20)
  · rw [if_pos c1, if_pos ⟨e60.2 c1.1, c1.2⟩]
    refine ⟨rfl, h.out, h.held, h.ats, h.none, ?_, fun _ _ => ?_, fun a ha h1 h2 => by omega⟩
    · show (m.buf ++ m.pnd) ++ [c] = sl p r.fr (i + 1)
      rw [h.tot, hsn]
    · show [c] = sl p i (i + 1)
      rw [sl_one p hi, hc]
  rw [if_neg c1, if_neg (fun e => c1 ⟨e60.1 e.1, e.2⟩)]
  have htx : s.pos ≠ 0 → s.pos ≠ 19 → sl p r.fr r.op = m.buf := by
    intro h1 h2
    have ho := hI.open_ h1 h2
    have ht := h.tot
    rw [h.pnd h1 h2, ← sl_append p ho.1 (show r.op ≤ i by omega)] at ht
    exact (List.append_cancel_right ht).symm
  by_cases c2 : c = 62 ∧ endsB m.st = true
  · rw [if_pos c2]
    rw [h.st] at c2
    rw [if_pos ⟨e62.2 c2.1, c2.2⟩]
    have hp := ends_pos c2.2
    have hn := t.ends (e62.2 c2.1) c2.2
    refine ⟨rfl, ?_, rfl, ?_, h.none, (sl_self p (i + 1)).symm, fun h1 h2 => by omega, fun a ha h1 h2 => by omega⟩
    · show m.out ++ txtL m.held m.buf ++ [tagL m.all m.st] = (textR p r r.op).out ++ [tagT r s]
      rw [txt_eq p r r.op m.buf (htx hp.1 hp.2), h.out, h.held, h.st]
      unfold tagL tagT Mc.all
      rw [← h.ats]
    · show (textR p r r.op).ats = _
      rw [(textR_out p r r.op).2.2.2.1]; exact h.ats
  rw [if_neg c2, if_neg (fun e => c2 ⟨e62.1 e.1, by rw [h.st]; exact e.2⟩)]
  by_cases c3 : c = 62 ∧ remarksB m.st = true
  · rw [if_pos c3]
    rw [h.st] at c3
    rw [if_pos ⟨e62.2 c3.1, c3.2⟩]
    have hp := rem_pos c3.2
    have hp0 : s.pos ≠ 0 ∧ s.pos ≠ 19 := by omega
    have hn := t.rem (e62.2 c3.1) c3.2
    have ha := (hI.asks t).rem c3.2
    have hpn := h.pnd hp0.1 hp0.2
    refine ⟨rfl, ?_, ?_, ?_, h.none, (sl_self p (i + 1)).symm, fun h1 h2 => by omega, fun a ha h1 h2 => by omega⟩
    · show m.out ++ txtL m.held m.buf ++ [⟨3, ⟨#[]⟩, bts (comL m.st m.pnd), [], false⟩] = (textR p r r.op).out ++ [comT p r s i]
      rw [txt_eq p r r.op m.buf (htx hp0.1 hp0.2), h.out, h.held, h.st]
      unfold comL comT
      rw [hpn, ext_sl, ext_sl]
      congr 3
      by_cases h17 : s.pos = 17
      · have := ha.2.2 h17
        rw [if_pos h17, if_pos h17]
        congr 1
        rw [sl_len p _ _ (by omega)]
        unfold sl
        rw [List.drop_take, List.drop_drop, List.take_take]
        congr 1 <;> omega
      · rw [if_neg h17, if_neg h17]
        congr 1
        unfold sl
        rw [List.drop_take, List.drop_drop]
        congr 1 <;> omega
    · show m.held = (textR p r r.op).held
      rw [(textR_out p r r.op).2.2.2.2.2]; exact h.held
    · show (textR p r r.op).ats = _
      rw [(textR_out p r r.op).2.2.2.1]; exact h.ats
  rw [if_neg c3, if_neg (fun e => c3 ⟨e62.1 e.1, by rw [h.st]; exact e.2⟩)]
  obtain ⟨p1, p2, p3, _⟩ := readsR_parts p r s nx i
  have hA := hI.asks t
  have hpnd : nx.pos ≠ 0 → nx.pos ≠ 19 → m.pnd ++ [c] = sl p r.op (i + 1) := by
    intro h1 h2
    by_cases hs : s.pos = 0 ∨ s.pos = 19
    · rcases t.dat hs with hd | hd
      · omega
      · exact absurd ⟨e60.1 hd.1, hd.2⟩ c1
    · have ho := hI.open_ (by omega) (by omega)
      rw [sl_snoc p (by omega : r.op ≤ i) hi, hc, h.pnd (by omega) (by omega)]
  have hcur : 0 < r.ats.length → ∃ a, m.cur = some a := by
    intro h0
    cases hq : m.cur with
    | some a => exact ⟨a, rfl⟩
    | none => rw [h.ats, hq, h.none hq] at h0; simp at h0
  -- the parts that no attribute touches
  have key : ∀ (r' : Rd) (q : List S47 × Option S47), r'.fr = r.fr → r'.op = r.op → r'.out = r.out → r'.held = r.held → r'.ats = q.1 ++ q.2.toList → (q.2 = none → q.1 = []) → (∀ a, q.2 = some a → 8 ≤ nx.pos → nx.pos ≤ 10 → a.f1 = bts (sl p r'.bg (i + 1))) →
      Rel p (i + 1) r' nx ⟨nx, m.out, m.buf, m.pnd ++ [c], m.held, q.1, q.2⟩ := by
    intro r' q q1 q2 q3 q4 q5 q6 q7
    exact ⟨rfl, by rw [q3]; exact h.out, by rw [q4]; exact h.held, q5, q6, by show m.buf ++ (m.pnd ++ [c]) = _; rw [q1, ← List.append_assoc, h.tot, hsn], by rw [q2]; exact hpnd, q7⟩
  have hne : ∀ a, m.cur = some a → r.ats = m.ats ++ [a] := fun a ha => by rw [h.ats, ha]; rfl
  by_cases n3 : nx.pos = 3
  · rw [show readsR p r s nx i = { r with ats := [] } by unfold readsR; rw [if_pos n3], show attM m nx c = ([], none) by unfold attM; rw [if_pos n3]]
    exact key _ _ rfl rfl rfl rfl rfl (fun _ => rfl) (fun a ha => by cases ha)
  by_cases n5 : nx.pos = 5
  · by_cases s5 : s.pos = 5
    · obtain ⟨a, ha⟩ := hcur (hI.has (by omega) (by omega))
      rw [show readsR p r s nx i = { r with ats := setName r.ats nx.attr } by unfold readsR; rw [if_neg n3, if_pos n5, if_pos s5], show attM m nx c = (m.ats, some ⟨nx.attr, a.f1⟩) by unfold attM; rw [if_neg n3, if_pos n5, h.st, if_pos s5, ha]; rfl]
      exact key _ _ rfl rfl rfl rfl (by show setName r.ats nx.attr = _; rw [hne a ha, setName_last]; rfl) (fun e => by cases e) (fun b hb h1 h2 => by omega)
    · rw [show readsR p r s nx i = { r with ats := setName (r.ats ++ [⟨⟨#[]⟩, ⟨#[]⟩⟩]) nx.attr } by unfold readsR; rw [if_neg n3, if_pos n5, if_neg s5], show attM m nx c = (m.ats ++ m.cur.toList, some ⟨nx.attr, ⟨#[]⟩⟩) by unfold attM; rw [if_neg n3, if_pos n5, h.st, if_neg s5]]
      exact key _ _ rfl rfl rfl rfl (by show setName (r.ats ++ [_]) nx.attr = _; rw [setName_last, h.ats]; rfl) (fun e => by cases e) (fun b hb h1 h2 => by omega)
  by_cases n10 : nx.pos = 10
  · have hat := t.attr (by omega) (by omega)
    obtain ⟨a, ha⟩ := hcur (hI.has hat.1 hat.2)
    by_cases s10 : s.pos = 10
    · have hv := h.val a ha (by omega) (by omega)
      have hb := hI.bg (by omega) (by omega)
      have hx : p.extract r.bg (i + 1) = more1 a.f1 c := by rw [ext_sl, sl_snoc p hb hi, hc, hv]; unfold more1; rw [bts_data]
      rw [show readsR p r s nx i = { r with ats := setVal r.ats (p.extract r.bg (i + 1)) } by unfold readsR; rw [if_neg n3, if_neg n5, if_pos n10, if_pos s10], show attM m nx c = (m.ats, some ⟨a.f0, more1 a.f1 c⟩) by unfold attM; rw [if_neg n3, if_neg n5, if_pos n10, h.st, ha, Option.map_some, if_pos s10]]
      exact key _ _ rfl rfl rfl rfl (by show setVal r.ats _ = _; rw [hne a ha, setVal_last, hx]; rfl) (fun e => by cases e) (fun b hb h1 h2 => by obtain rfl := Option.some.inj hb; show more1 a.f1 c = _; rw [← hx, ext_sl])
    · have hx : p.extract i (i + 1) = bts [c] := by rw [ext_sl, sl_one p hi, hc]
      rw [show readsR p r s nx i = { r with ats := setVal r.ats (p.extract i (i + 1)), bg := i } by unfold readsR; rw [if_neg n3, if_neg n5, if_pos n10, if_neg s10], show attM m nx c = (m.ats, some ⟨a.f0, bts [c]⟩) by unfold attM; rw [if_neg n3, if_neg n5, if_pos n10, h.st, ha, Option.map_some, if_neg s10]]
      exact key _ _ rfl rfl rfl rfl (by show setVal r.ats _ = _; rw [hne a ha, setVal_last, hx]; rfl) (fun e => by cases e) (fun b hb h1 h2 => by obtain rfl := Option.some.inj hb; show bts [c] = bts (sl p i (i + 1)); rw [sl_one p hi, hc])
  by_cases n89 : nx.pos = 8 ∨ nx.pos = 9
  · have hat := t.attr (by omega) (by omega)
    obtain ⟨a, ha⟩ := hcur (hI.has hat.1 hat.2)
    by_cases s8 : s.pos = nx.pos
    · have hv := h.val a ha (by omega) (by omega)
      have hb := hI.bg (by omega) (by omega)
      have hx : p.extract r.bg (i + 1) = more1 a.f1 c := by rw [ext_sl, sl_snoc p hb hi, hc, hv]; unfold more1; rw [bts_data]
      rw [show readsR p r s nx i = { r with ats := setVal r.ats (p.extract r.bg (i + 1)) } by unfold readsR; rw [if_neg n3, if_neg n5, if_neg n10, if_pos n89, if_pos s8], show attM m nx c = (m.ats, some ⟨a.f0, more1 a.f1 c⟩) by unfold attM; rw [if_neg n3, if_neg n5, if_neg n10, if_pos n89, h.st, ha, Option.map_some, if_pos s8]]
      exact key _ _ rfl rfl rfl rfl (by show setVal r.ats _ = _; rw [hne a ha, setVal_last, hx]; rfl) (fun e => by cases e) (fun b hb h1 h2 => by obtain rfl := Option.some.inj hb; show more1 a.f1 c = _; rw [← hx, ext_sl])
    · have hx : p.extract (i + 1) (i + 1) = bts [] := by rw [ext_sl, sl_self]
      rw [show readsR p r s nx i = { r with ats := setVal r.ats (p.extract (i + 1) (i + 1)), bg := i + 1 } by unfold readsR; rw [if_neg n3, if_neg n5, if_neg n10, if_pos n89, if_neg s8], show attM m nx c = (m.ats, some ⟨a.f0, bts []⟩) by unfold attM; rw [if_neg n3, if_neg n5, if_neg n10, if_pos n89, h.st, ha, Option.map_some, if_neg s8]]
      exact key _ _ rfl rfl rfl rfl (by show setVal r.ats _ = _; rw [hne a ha, setVal_last, hx]; rfl) (fun e => by cases e) (fun b hb h1 h2 => by obtain rfl := Option.some.inj hb; show bts [] = bts (sl p (i + 1) (i + 1)); rw [sl_self])
  rw [show readsR p r s nx i = r by unfold readsR; rw [if_neg n3, if_neg n5, if_neg n10, if_neg n89], show attM m nx c = (m.ats, m.cur) by unfold attM; rw [if_neg n3, if_neg n5, if_neg n10, if_neg n89]]
  exact key r (m.ats, m.cur) rfl rfl rfl rfl h.ats h.none (fun a ha h1 h2 => by omega)
theorem mach_run (p : ByteArray) : ∀ i, i ≤ p.data.toList.length → Rel p i (mach p i).1 (mach p i).2 (runM m0 (p.data.toList.take i))
  | 0, _ => rel_start p
  | i + 1, h => by
    have hi : i < p.data.toList.length := by omega
    have hI := mach_inv p i (by show i ≤ p.data.toList.length; omega)
    have := rel_step hI (mach_run p i (by omega)) hi rfl (step_tab _ _ hI.rng.1 hI.rng.2)
    rw [List.take_succ_eq_append_getElem hi]
    unfold runM
    rw [List.foldl_append]
    exact this
theorem tokens_eq (page : ByteArray) : tokensF page = tokensM page.data.toList := by
  unfold tokensF tokensM
  have hl : page.size = page.data.toList.length := rfl
  by_cases h : 65536 < page.size
  · rw [if_pos h, if_pos (by omega)]
  · rw [if_neg h, if_neg (by omega)]
    have hd : (linesB page).data.toList = linesL page.data.toList := by unfold linesB; simp
    obtain ⟨p, hp⟩ : ∃ p, linesB page = p := ⟨_, rfl⟩
    rw [hp] at hd ⊢
    rw [← hd]
    have hsz : p.size = p.data.toList.length := rfl
    have hR := mach_run p p.size (by omega)
    have hI := mach_inv p p.size (Nat.le_refl _)
    rw [List.take_of_length_le (by omega)] at hR
    congr 1
    unfold restR endM
    rw [hR.st]
    by_cases hb : restB (mach p p.size).2 = true
    · rw [if_pos hb, if_pos hb, txt_eq _ _ _ _ hR.tot.symm, hR.out, hR.held]
    · rw [if_neg hb, if_neg hb, hR.out, hR.held]
      refine txt_eq _ _ _ _ ?_
      have hp0 : (mach p p.size).2.pos ≠ 0 ∧ (mach p p.size).2.pos ≠ 19 := by
        constructor
        · intro e; exact hb (by unfold restB; rw [if_pos (Or.inl e)])
        · intro e; exact hb (by unfold restB; rw [if_pos (by omega)])
      have ho := hI.open_ hp0.1 hp0.2
      have ht := hR.tot
      rw [hR.pnd hp0.1 hp0.2, ← sl_append p ho.1 (show (mach p p.size).1.op ≤ p.size by omega)] at ht
      exact (List.append_cancel_right ht).symm
end Go.Proofs.YtgbaakopneldaaaDoor.Tk
end
section
namespace Go.Proofs.YtgbaakopneldaaaDoor.Tk
open Go.RowKit Go.Proofs.YtgbaakopneldaaaDoor.XK Go.Proofs.YtgbaakopneldaaaDoorW.PrintWords Go.Proofs.YtgbaakopneldaaaDoorW.PrintLast Go.Proofs.YtgbaakopneldaaaDoorW.PrintMore
open Go.Proofs.YtgbaakopneldaaaDoor.Refs (lowN decL decL_plain decL_nil)
open Go.Proofs.YtgbaakopneldaaaDoor.Ln (linesB linesL lines_none)
set_option linter.unusedVariables false
set_option linter.unusedSimpArgs false
set_option maxRecDepth 100000
theorem run_app (m : Mc) (a b : List UInt8) : runM m (a ++ b) = runM (runM m a) b := List.foldl_append
theorem run_cons (m : Mc) (a : UInt8) (b : List UInt8) : runM m (a :: b) = runM (stepM m a) b := rfl
def Stays (s : St) (b : UInt8) : Prop := stepS s b.toNat = s ∧ ¬ (b = 60 ∧ (s.pos = 1 ∨ s.pos = 20)) ∧ ¬ (b = 62 ∧ endsB s = true) ∧ ¬ (b = 62 ∧ remarksB s = true)
theorem step_stay {m : Mc} {s : St} {b : UInt8} (hs : m.st = s) (hp : s.pos ≠ 3 ∧ s.pos ≠ 5 ∧ s.pos ≠ 8 ∧ s.pos ≠ 9 ∧ s.pos ≠ 10) (h : Stays s b) : stepM m b = { m with pnd := m.pnd ++ [b] } := by
  obtain ⟨h1, h2, h3, h4⟩ := h
  subst hs
  unfold stepM
  simp only [h1]
  rw [if_neg h2, if_neg h3, if_neg h4]
  unfold attM
  rw [if_neg hp.1, if_neg hp.2.1, if_neg hp.2.2.2.2, if_neg (by omega)]
theorem run_stay {s : St} (hp : s.pos ≠ 3 ∧ s.pos ≠ 5 ∧ s.pos ≠ 8 ∧ s.pos ≠ 9 ∧ s.pos ≠ 10) : ∀ (l : List UInt8) (m : Mc), m.st = s → (∀ b ∈ l, Stays s b) → runM m l = { m with pnd := m.pnd ++ l }
  | [], m, _, _ => by show m = _; rw [List.append_nil]
  | b :: l, m, hs, h => by
    rw [run_cons, step_stay hs hp (h b (by simp)), run_stay hp l { m with pnd := m.pnd ++ [b] } hs (fun x hx => h x (by simp [hx]))]
    simp only [List.append_assoc]; rfl
theorem ne_nat {b : UInt8} {n : Nat} (hn : n < 256) (h : b ≠ UInt8.ofNat n) : b.toNat ≠ n := fun e => h ((u8_eq b n hn).1 e)
theorem stays_data {b : UInt8} (h : b ≠ 60) : Stays (atS 0) b := by
  refine ⟨?_, fun e => h e.1, fun e => absurd e.2 (by decide), fun e => absurd e.2 (by decide)⟩
  rw [stepS_0 _ rfl]; unfold dataS; rw [if_neg (ne_nat (n := 60) (by decide) h)]
theorem stays_comment {b : UInt8} (h : b ≠ 45) : Stays (atS 15) b := by
  refine ⟨?_, fun e => absurd e.2 (by decide), fun e => absurd e.2 (by decide), fun e => absurd e.2 (by decide)⟩
  rw [stepS_15 _ rfl]; unfold commentS; rw [if_neg (ne_nat (n := 45) (by decide) h)]; rfl
theorem stays_bogus {b : UInt8} (h : b ≠ 62) : Stays (atS 18) b := by
  refine ⟨?_, fun e => absurd e.2 (by decide), fun e => h e.1, fun e => h e.1⟩
  rw [stepS_18 _ rfl]; unfold bogusS; rw [if_neg (ne_nat (n := 62) (by decide) h)]; rfl
def heldSt (h : ByteArray) : St := ⟨19, ⟨#[]⟩, false, ⟨#[]⟩, h, 0⟩
theorem stays_held {h : ByteArray} {b : UInt8} (hb : b ≠ 60) : Stays (heldSt h) b := by
  refine ⟨?_, fun e => hb e.1, fun e => absurd e.2 (by unfold endsB heldSt; simp), fun e => absurd e.2 (by unfold remarksB heldSt; simp)⟩
  rw [stepS_19 _ rfl]; unfold holdsS; rw [if_neg (ne_nat (n := 60) (by decide) hb)]; rfl
theorem run_data (m : Mc) (l : List UInt8) (hs : m.st = atS 0) (h : ∀ b ∈ l, b ≠ 60) : runM m l = { m with pnd := m.pnd ++ l } := run_stay (by decide) l m hs (fun b hb => stays_data (h b hb))
theorem run_comment (m : Mc) (l : List UInt8) (hs : m.st = atS 15) (h : ∀ b ∈ l, b ≠ 45) : runM m l = { m with pnd := m.pnd ++ l } := run_stay (by decide) l m hs (fun b hb => stays_comment (h b hb))
theorem run_bogus (m : Mc) (l : List UInt8) (hs : m.st = atS 18) (h : ∀ b ∈ l, b ≠ 62) : runM m l = { m with pnd := m.pnd ++ l } := run_stay (by decide) l m hs (fun b hb => stays_bogus (h b hb))
def heldB (s : St) : Bool := decide (19 ≤ s.pos) && decide (s.pos ≤ 22)
def quietRun : St → List UInt8 → Bool
  | _, [] => true
  | s, c :: l => heldB (stepS s c.toNat) && !(c == 62 && endsB s) && quietRun (stepS s c.toNat) l
def stRun (s : St) (l : List UInt8) : St := l.foldl (fun s c => stepS s c.toNat) s
theorem rem_held {s : St} (h : heldB s = true) : remarksB s = false := by
  unfold heldB at h; simp at h
  cases hr : remarksB s with
  | false => rfl
  | true => have := rem_pos hr; omega
theorem run_held : ∀ (l : List UInt8) (m : Mc), heldB m.st = true → quietRun m.st l = true →
    (runM m l).st = stRun m.st l ∧ (runM m l).out = m.out ∧ (runM m l).held = m.held ∧ (runM m l).ats = m.ats ∧ (runM m l).cur = m.cur ∧ (runM m l).buf ++ (runM m l).pnd = m.buf ++ m.pnd ++ l
  | [], m, _, _ => ⟨rfl, rfl, rfl, rfl, rfl, by rw [List.append_nil]; rfl⟩
  | c :: l, m, h0, h => by
    unfold quietRun at h
    simp only [Bool.and_eq_true, Bool.not_eq_true', Bool.and_eq_false_iff] at h
    obtain ⟨⟨h1, h2⟩, h3⟩ := h
    have hs : (stepM m c).st = stepS m.st c.toNat ∧ (stepM m c).out = m.out ∧ (stepM m c).held = m.held ∧ (stepM m c).ats = m.ats ∧ (stepM m c).cur = m.cur ∧ (stepM m c).buf ++ (stepM m c).pnd = m.buf ++ m.pnd ++ [c] := by
      unfold stepM
      simp only []
      by_cases c1 : c = 60 ∧ ((stepS m.st c.toNat).pos = 1 ∨ (stepS m.st c.toNat).pos = 20)
      · rw [if_pos c1]; exact ⟨rfl, rfl, rfl, rfl, rfl, rfl⟩
      rw [if_neg c1, if_neg (fun e => by rcases h2 with h2 | h2; simp [e.1] at h2; rw [e.2] at h2; exact absurd h2 (by simp)), if_neg (fun e => by rw [rem_held h0] at e; exact absurd e.2 (by simp))]
      unfold heldB at h1; simp at h1
      unfold attM
      rw [if_neg (by omega), if_neg (by omega), if_neg (by omega), if_neg (by omega)]
      exact ⟨rfl, rfl, rfl, rfl, rfl, by simp only [List.append_assoc]⟩
    obtain ⟨s1, s2, s3, s4, s5, s6⟩ := hs
    obtain ⟨r1, r2, r3, r4, r5, r6⟩ := run_held l (stepM m c) (by rw [s1]; exact h1) (by rw [s1]; exact h3)
    rw [run_cons]
    refine ⟨by rw [r1, s1]; rfl, by rw [r2, s2], by rw [r3, s3], by rw [r4, s4], by rw [r5, s5], by rw [r6, s6]; simp only [List.append_assoc]; rfl⟩
theorem quiet_app : ∀ (a b : List UInt8) (s : St), quietRun s (a ++ b) = (quietRun s a && quietRun (stRun s a) b)
  | [], b, s => by simp [quietRun, stRun]
  | c :: a, b, s => by
    show quietRun s (c :: (a ++ b)) = _
    rw [quietRun, quietRun, quiet_app a b]
    simp only [Bool.and_assoc]; rfl
theorem stRun_app (a b : List UInt8) (s : St) : stRun s (a ++ b) = stRun (stRun s a) b := List.foldl_append
theorem quiet_held (h : ByteArray) : ∀ (l : List UInt8), (∀ b ∈ l, b ≠ 60) → quietRun (heldSt h) l = true ∧ stRun (heldSt h) l = heldSt h
  | [], _ => ⟨rfl, rfl⟩
  | c :: l, hl => by
    have hst := (stays_held (h := h) (hl c (by simp))).1
    have ih := quiet_held h l (fun b hb => hl b (by simp [hb]))
    unfold quietRun
    rw [hst]
    refine ⟨?_, ?_⟩
    · rw [ih.1, show endsB (heldSt h) = false by unfold endsB heldSt; simp]
      simp; rfl
    · show stRun (stepS (heldSt h) c.toNat) l = _
      rw [hst]; exact ih.2
theorem dec_plain : ∀ l : List UInt8, (∀ b ∈ l, b ≠ 38) → decL l = l
  | [], _ => decL_nil
  | c :: l, h => by rw [decL_plain c l (h c (by simp)), dec_plain l (fun b hb => h b (by simp [hb]))]
theorem textV_plain (h : ByteArray) (l : List UInt8) (hl : ∀ b ∈ l, b ≠ 38) : textV h (bts l) = bts l := by
  unfold textV
  repeat' split
  all_goals first
    | rfl
    | (unfold decS; rw [bts_data, dec_plain l hl]; rfl)
theorem txt_plain (h : ByteArray) (c : UInt8) (l : List UInt8) (hl : ∀ b ∈ c :: l, b ≠ 38) : txtL h (c :: l) = [⟨0, ⟨#[]⟩, bts (c :: l), [], false⟩] := by
  show [_] = _
  rw [textV_plain h _ hl]
theorem txt_ne (h : ByteArray) (l : List UInt8) (hn : l ≠ []) (hl : ∀ b ∈ l, b ≠ 38) : txtL h l = [⟨0, ⟨#[]⟩, bts l, [], false⟩] := by
  cases l with
  | nil => exact absurd rfl hn
  | cons c l => exact txt_plain h c l hl
end Go.Proofs.YtgbaakopneldaaaDoor.Tk
end
section
namespace Go.Proofs.YtgbaakopneldaaaDoor.Tk
open Go.RowKit Go.Proofs.YtgbaakopneldaaaDoor.XK Go.Proofs.YtgbaakopneldaaaDoorW.PrintWords Go.Proofs.YtgbaakopneldaaaDoorW.PrintLast Go.Proofs.YtgbaakopneldaaaDoorW.PrintMore
open Go.Proofs.YtgbaakopneldaaaDoor.Refs (lowN decL)
open Go.Proofs.YtgbaakopneldaaaDoor.Ln (MaxAt linesB linesL lines_calls)
attribute [local go_sem ↓] Go.wp_at_zero Go.wp_at_succ
set_option linter.unusedVariables false
set_option linter.unusedSimpArgs false
set_option maxRecDepth 100000
theorem lines_sz (s : ByteArray) : (linesB s).size ≤ s.size := by
  have h := Ln.lines_len s.data.toList
  have e1 : (linesB s).size = (linesL s.data.toList).length := by rfl
  have e2 : s.data.toList.length = s.size := rfl
  omega
theorem RdAt.setSt {w : World} {base b g j : Nat} {ok : Nat → Prop} {p : ByteArray} {r : Rd} {cs : Array Value} {u : Value} (h : RdAt w base b ok p r) (hg : w.heap[g]? = some (.cells cs 40 (0, 0))) : RdAt (w.setCell ⟨g, j, none⟩ u) base b ok p r := by
  obtain ⟨hb0, v0, v1, hb1, hS, hR⟩ := h
  exact ⟨hb0, v0, v1, blk_far hb1 (blk_ne hb1 hg (by decide)) _, Kd.S_set hS hg (by decide) j u, Kd.R_set hR hg (by decide) j u⟩
def put6 (w : World) (g : Nat) (s : St) : World := (((((w.setCell ⟨g, 0, none⟩ (.int .i64 s.pos)).setCell ⟨g, 1, none⟩ (.string s.name)).setCell ⟨g, 2, none⟩ (.bool s.fin)).setCell ⟨g, 3, none⟩ (.string s.attr)).setCell ⟨g, 4, none⟩ (.string s.held)).setCell ⟨g, 5, none⟩ (.int .i64 s.read)
theorem RdAt.put6 {w : World} {base b g : Nat} {ok : Nat → Prop} {p : ByteArray} {r : Rd} {cs : Array Value} {s : St} (h : RdAt w base b ok p r) (hg : w.heap[g]? = some (.cells cs 40 (0, 0))) : RdAt (put6 w g s) base b ok p r := by
  unfold Tk.put6
  have h0 := h.setSt (j := 0) (u := .int .i64 s.pos) hg
  have g0 := blk_set hg 0 (.int .i64 s.pos)
  have h1 := h0.setSt (j := 1) (u := .string s.name) g0
  have g1 := blk_set g0 1 (.string s.name)
  have h2 := h1.setSt (j := 2) (u := .bool s.fin) g1
  have g2 := blk_set g1 2 (.bool s.fin)
  have h3 := h2.setSt (j := 3) (u := .string s.attr) g2
  have g3 := blk_set g2 3 (.string s.attr)
  have h4 := h3.setSt (j := 4) (u := .string s.held) g3
  exact h4.setSt (j := 5) (u := .int .i64 s.read) (blk_set g3 4 (.string s.held))
theorem put6_far {w : World} {g k : Nat} {s : St} {o : Obj} (h : w.heap[k]? = some o) (hne : k ≠ g) : (put6 w g s).heap[k]? = some o := by
  unfold put6
  rw [Below.heap_setCell _ ⟨g, 5, none⟩ _ k hne, Below.heap_setCell _ ⟨g, 4, none⟩ _ k hne, Below.heap_setCell _ ⟨g, 3, none⟩ _ k hne, Below.heap_setCell _ ⟨g, 2, none⟩ _ k hne, Below.heap_setCell _ ⟨g, 1, none⟩ _ k hne, Below.heap_setCell _ ⟨g, 0, none⟩ _ k hne]
  exact h
def TokensP (page : ByteArray) (w : World) (e : Ending) (w' : World) : Prop := ∃ v0, e = .returned (.tuple #[v0, .int .i64 (tokensF page).2]) ∧ Kd.S k30 30 w' w.heap.size (fun _ => True) v0 (tokensF page).1 ∧ Below w.heap.size w w'
set_option maxHeartbeats 3200000 in
theorem tokens_calls (page : ByteArray) (m : Int) (w : World) (hm : MaxAt m w) : Calls Tryd.prog 11 #[.string page] w (TokensP page w) := by
  unfold TokensP
  by_cases hl : 65536 < page.size
  · have d : decide ((65536 : Int) < (page.size : Int)) = true := decide_eq_true (by omega)
    rw [show tokensF page = ([], 500) by unfold tokensF; rw [if_pos hl]]
    go_enter Tryd.func11, Tryd.ntmps11
    go_wp2
    go_ret2
    exact ⟨_, rfl, Kd.S_nil _ _ _ _ _, Below.refl _ _⟩
  · have d : decide ((65536 : Int) < (page.size : Int)) = false := decide_eq_false (by omega)
    have HLi := Aside0.mk (lines_calls page m w hm (by omega))
    have hps := lines_sz page
    have HF := Aside0.mk (show tokensF page = _ by unfold tokensF; rw [if_neg hl])
    rw [HF.out]
    obtain ⟨p, hp⟩ : ∃ p, linesB page = p := ⟨_, rfl⟩
    rw [hp] at HLi hps ⊢
    have hp6 : p.size ≤ 65536 := by omega
    have HP6 := Aside0.mk hp6
    have hu40 := Tryd.underlying40
    have HMI := Aside0.mk (mach_inv p)
    clear hl hps HF hp hm hp6
    go_enter Tryd.func11, Tryd.ntmps11
    go_wp2_with (first | (go_at_call 18; refine HLi.out.mono ?_; rintro e w1 ⟨rfl, hb1⟩; have B1 := Aside0.mk hb1; clear hb1) | (go_at_call 19; refine (start_calls _).mono ?_; rintro e w3 ⟨rfl, hb3⟩; have hbk := blk_below (heap_alloc_new w1 (.cells #[.string p, .slice none 0 0, .int .i64 0, .int .i64 0, .string ⟨#[]⟩, .slice none 0 0, .int .i64 0] 54)) hb3; have c0 := cell_alloc (show w3.cell? ⟨w1.heap.size, 0, none⟩ = some (.string p) from (blk_cell hbk 0).trans rfl) (.cells #[.int .i64 (atS 0).pos, .string (atS 0).name, .bool (atS 0).fin, .string (atS 0).attr, .string (atS 0).held, .int .i64 (atS 0).read] 40); have BK := Aside0.mk hbk; have B3 := Aside0.mk hb3; clear hbk hb3))
    have I4 := Aside0.mk (show RdAt (w3.alloc (.cells #[.int .i64 (atS 0).pos, .string (atS 0).name, .bool (atS 0).fin, .string (atS 0).attr, .string (atS 0).held, .int .i64 (atS 0).read] 40)) w.heap.size w1.heap.size (fun _ => True) p rd0 from ⟨B1.out.size, _, _, blk_alloc BK.out _, Kd.S_nil _ _ _ _ _, Kd.R_nil _ _ _ _ _⟩)
    have L13 := (below_alloc (Below.refl w1.heap.size w1) (.cells #[.string p, .slice none 0 0, .int .i64 0, .int .i64 0, .string ⟨#[]⟩, .slice none 0 0, .int .i64 0] 54)).trans (B3.out.mono (by simp))
    have L4 := Aside0.mk (show Below w.heap.size w (w3.alloc (.cells #[.int .i64 (atS 0).pos, .string (atS 0).name, .bool (atS 0).fin, .string (atS 0).attr, .string (atS 0).held, .int .i64 (atS 0).read] 40)) from (B1.out.trans (L13.mono B1.out.size)).alloc (Nat.le_trans B1.out.size L13.size) _)
    have S4 := Aside0.mk (show StAt (w3.alloc (.cells #[.int .i64 (atS 0).pos, .string (atS 0).name, .bool (atS 0).fin, .string (atS 0).attr, .string (atS 0).held, .int .i64 (atS 0).read] 40)) w3.heap.size (atS 0) from heap_alloc_new w3 _)
    have G4 := Aside0.mk (show w.heap.size ≤ w3.heap.size from Nat.le_trans B1.out.size L13.size)
    obtain ⟨b, hb⟩ : ∃ b, w1.heap.size = b := ⟨_, rfl⟩
    obtain ⟨gs, hgs⟩ : ∃ gs, w3.heap.size = gs := ⟨_, rfl⟩
    obtain ⟨w4, hw4⟩ : ∃ w4, w3.alloc (.cells #[.int .i64 (atS 0).pos, .string (atS 0).name, .bool (atS 0).fin, .string (atS 0).attr, .string (atS 0).held, .int .i64 (atS 0).read] 40) = w4 := ⟨_, rfl⟩
    rw [hw4, hb] at I4
    rw [hw4, hgs] at S4
    rw [hw4] at L4
    rw [hgs] at G4
    rw [hw4, hb, hgs]
    clear hb hgs hw4 L13 B3 BK c0 B1 HLi
    go_loopw [21] (fun a wr => ∃ i : Nat, a = .int .i64 (i : Int) ∧ i ≤ p.size ∧ Aside0 (RdAt wr w.heap.size b (fun _ => True) p (mach p i).1) ∧ Aside0 (StAt wr gs (mach p i).2) ∧ Aside0 (Below w.heap.size w wr))
      (fun a _ => p.size - (RowKit.intOf a).toNat)
    case atStart => exact ⟨0, rfl, Nat.zero_le _, I4, S4, L4⟩
    case round =>
      obtain ⟨i, rfl, hi, HI, HS, HB⟩ := hrel
      have hp6 := HP6.out
      by_cases hlt : i < p.size
      · have hIv := HMI.out i hi
        have htb := step_tab (mach p i).2 (byteAt p (i : Int)) hIv.rng.1 hIv.rng.2
        have hAs := hIv.asks htb
        have HE := Aside0.mk (show mach p (i + 1) = (takesR p (mach p i).1 (mach p i).2 (stepS (mach p i).2 (byteAt p (i : Int))) i, stepS (mach p i).2 (byteAt p (i : Int))) from rfl)
        obtain ⟨r, hr⟩ : ∃ r, (mach p i).1 = r := ⟨_, rfl⟩
        obtain ⟨s, hs⟩ : ∃ s, (mach p i).2 = s := ⟨_, rfl⟩
        have hcb : byteAt p (i : Int) < 256 := by unfold byteAt; exact UInt8.toNat_lt _
        have hrun := fun W => byte_run (P := Tryd.prog) 9 p i hlt W Tryd.underlying9
        obtain ⟨c, hc⟩ : ∃ c, byteAt p (i : Int) = c := ⟨_, rfl⟩
        rw [hr, hs, hc] at HE hAs
        rw [hr] at HI
        rw [hs] at HS
        rw [hr, hs] at hIv
        rw [hc] at hrun hcb
        have HSt := Aside0.mk (fun w => step_calls s c w hcb hIv.rng.1 hIv.rng.2 (by have := hIv.sz.2.1; omega))
        obtain ⟨nx, hnx⟩ : ∃ nx, stepS s c = nx := ⟨_, rfl⟩
        rw [hnx] at HE hAs HSt
        have HAs := Aside0.mk hAs
        have HIv := Aside0.mk hIv
        have y0 := HI.out.cells.1
        obtain ⟨s0, s1, s2, s3, s4, s5, _⟩ := cells6 HS.out
        clear hr hs hc hnx hAs hIv htb hcb I4 S4 L4
        go_wp2
        refine start_ (n := 10) (S := fun w' => w'.cell? ⟨gs, 0, none⟩ = some (.int .i64 s.pos) ∧ w'.cell? ⟨gs, 1, none⟩ = some (.string s.name) ∧ w'.cell? ⟨gs, 2, none⟩ = some (.bool s.fin) ∧ w'.cell? ⟨gs, 3, none⟩ = some (.string s.attr) ∧ w'.cell? ⟨gs, 4, none⟩ = some (.string s.held) ∧ w'.cell? ⟨gs, 5, none⟩ = some (.int .i64 s.read) ∧ w'.cell? ⟨b, 0, none⟩ = some (.string p)) (ds := [9]) #[false, false, false, false, false, false, false, false, false, false] (by kernel_rfl) rfl rfl ⟨s0, s1, s2, s3, s4, s5, y0⟩ (fun hHeld => ?_)
        refine pS 1 25 #[false, true, false, false, false, false, false, false, false, false] ?_
        refine pS 2 26 #[false, true, true, false, false, false, false, false, false, false] ?_
        refine pS 3 27 #[false, true, true, true, false, false, false, false, false, false] ?_
        refine pS 5 29 #[false, true, true, true, false, true, false, false, false, false] ?_
        refine take_ (i := 0) (N := some 24) (v := ?_) (a' := ?_) #[true, true, true, true, false, true, false, false, false, false] rfl rfl (by kernel_rfl) (fun _ _ _ h => h) (Or.inl ⟨by rfl, ?_⟩) hHeld ?_ ?_
        rotate_left
        · rintro w' ⟨s0, s1, s2, s3, s4, s5, s6⟩
          go_simp
          with_reducible rfl
        rotate_left
        · simp only [Act.put, zA, zZ, zS, i64_w, i32_w]
          rfl
        refine take_ (i := 4) (N := some 28) (v := ?_) (a' := ?_) #[true, true, true, true, true, true, false, false, false, false] rfl rfl (by kernel_rfl) (fun _ _ _ h => h) (Or.inl ⟨by rfl, ?_⟩) hHeld ?_ ?_
        rotate_left
        · rintro w' ⟨s0, s1, s2, s3, s4, s5, s6⟩
          go_simp
          with_reducible rfl
        rotate_left
        · simp only [Act.put, zA, zZ, zS, i64_w, i32_w]
          rfl
        refine take_ (i := 6) (N := some 30) (v := ?_) (a' := ?_) #[true, true, true, true, true, true, true, false, false, false] rfl rfl (by kernel_rfl) (fun _ _ _ h => h) (Or.inl ⟨by rfl, ?_⟩) hHeld ?_ ?_
        rotate_left
        · rintro w' ⟨s0, s1, s2, s3, s4, s5, s6⟩
          go_simp
          with_reducible rfl
        rotate_left
        · simp only [Act.put, zA, zZ, zS, i64_w, i32_w]
          rfl
        refine join_ (σ := Nat) 1 #[true, true, true, true, true, true, true, true, true, false] (fun gn => [(31, .agg #[.int .i64 nx.pos, .string nx.name, .bool nx.fin, .string nx.attr, .string nx.held, .int .i64 nx.read]), (7, .pointer (some ⟨gn, 0, none⟩))]) (fun gn w' => Below wr.heap.size wr w' ∧ w'.heap[gn]? = some (.cells #[.int .i64 0, .string ⟨#[]⟩, .bool false, .string ⟨#[]⟩, .string ⟨#[]⟩, .int .i64 0] 40 (0, 0)) ∧ wr.heap.size ≤ gn) ?_ ?_
        rotate_left
        · intro hCont
          refine two_ (i := 7) (j := 8) (Ni := some 31) (Nj := some 7) #[true, true, true, true, true, true, true, true, false, false] #[true, true, true, true, true, true, true, false, true, false] rfl rfl rfl rfl (by kernel_rfl) (by decide) (by decide) (fun K hK => ?_) (fun K hK => ?_)
          · skip
            refine goes_ Tryd.func15 (by kernel_rfl) rfl #[.agg #[.int .i64 s.pos, .string s.name, .bool s.fin, .string s.attr, .string s.held, .int .i64 s.read], .int .u8 (c : Int)] (by rfl) rfl rfl (by simp only [List.map_toArray, List.map_cons, List.map_nil]; rfl) ?_
            with_reducible refine (HSt.out _).mono ?_
            rintro e w3 ⟨rfl, hb3⟩
            refine ⟨_, rfl, ?_⟩
            have hb3 := (below_drew (Below.refl wr.heap.size wr)).trans hb3
            refine hK.out _ _ ⟨(pw_cell_below hb3 s0), (pw_cell_below hb3 s1), (pw_cell_below hb3 s2), (pw_cell_below hb3 s3), (pw_cell_below hb3 s4), (pw_cell_below hb3 s5), (pw_cell_below hb3 y0)⟩ (fun hHeld => ?_)
            clear hK K
            refine norm_ (a' := ?_) ?_ ?_
            rotate_left
            · show Act.put _ (some 31) _ = _
              simp only [Act.put, zA, zZ, zS, i64_w, i32_w]
              rfl
            refine one_ (i := 8) (N := some 7) #[true, true, true, true, true, true, true, true, true, false] rfl rfl (by kernel_rfl) (by decide) (fun K hK => ?_)
            refine value_ (w1 := ?_) (v := ?_) (by rfl) rfl ?_ ?_
            rotate_left 2
            · go_simp
              constructor
              · rfl
              · rfl
            refine hK.out _ _ ⟨(cell_alloc (pw_cell_below hb3 s0) _), (cell_alloc (pw_cell_below hb3 s1) _), (cell_alloc (pw_cell_below hb3 s2) _), (cell_alloc (pw_cell_below hb3 s3) _), (cell_alloc (pw_cell_below hb3 s4) _), (cell_alloc (pw_cell_below hb3 s5) _), (cell_alloc (pw_cell_below hb3 y0) _)⟩ (fun hHeld => ?_)
            clear hK K
            refine norm_ (a' := ?_) ?_ ?_
            rotate_left
            · show Act.put _ (some 7) _ = _
              simp only [Act.put, zA, zZ, zS, i64_w, i32_w]
              rfl
            exact norm_ (by simp only [putAll, Act.put, List.setIfInBounds_toArray, List.set_cons_zero, List.set_cons_succ]) (hCont w3.heap.size _ ⟨hb3.alloc hb3.size _, heap_alloc_new w3 _, hb3.size⟩)
          · skip
            refine value_ (w1 := ?_) (v := ?_) (by rfl) rfl ?_ ?_
            rotate_left 2
            · go_simp
              constructor
              · rfl
              · rfl
            refine hK.out _ _ ⟨(cell_alloc (w := wr.drew) s0 _), (cell_alloc (w := wr.drew) s1 _), (cell_alloc (w := wr.drew) s2 _), (cell_alloc (w := wr.drew) s3 _), (cell_alloc (w := wr.drew) s4 _), (cell_alloc (w := wr.drew) s5 _), (cell_alloc (w := wr.drew) y0 _)⟩ (fun hHeld => ?_)
            clear hK K
            refine norm_ (a' := ?_) ?_ ?_
            rotate_left
            · show Act.put _ (some 7) _ = _
              simp only [Act.put, zA, zZ, zS, i64_w, i32_w]
              rfl
            refine one_ (i := 7) (N := some 31) #[true, true, true, true, true, true, true, true, true, false] rfl rfl (by kernel_rfl) (by decide) (fun K hK => ?_)
            refine goes_ Tryd.func15 (by kernel_rfl) rfl #[.agg #[.int .i64 s.pos, .string s.name, .bool s.fin, .string s.attr, .string s.held, .int .i64 s.read], .int .u8 (c : Int)] (by rfl) rfl rfl (by simp only [List.map_toArray, List.map_cons, List.map_nil]; rfl) ?_
            with_reducible refine (HSt.out _).mono ?_
            rintro e w3 ⟨rfl, hb3⟩
            refine ⟨_, rfl, ?_⟩
            refine hK.out _ _ ⟨(pw_cell_below hb3 (cell_alloc (w := wr.drew) s0 _)), (pw_cell_below hb3 (cell_alloc (w := wr.drew) s1 _)), (pw_cell_below hb3 (cell_alloc (w := wr.drew) s2 _)), (pw_cell_below hb3 (cell_alloc (w := wr.drew) s3 _)), (pw_cell_below hb3 (cell_alloc (w := wr.drew) s4 _)), (pw_cell_below hb3 (cell_alloc (w := wr.drew) s5 _)), (pw_cell_below hb3 (cell_alloc (w := wr.drew) y0 _))⟩ (fun hHeld => ?_)
            clear hK K
            refine norm_ (a' := ?_) ?_ ?_
            rotate_left
            · show Act.put _ (some 31) _ = _
              simp only [Act.put, zA, zZ, zS, i64_w, i32_w]
              rfl
            exact norm_ (by simp only [putAll, Act.put, List.setIfInBounds_toArray, List.set_cons_zero, List.set_cons_succ]) (hCont wr.heap.size _ ⟨(show Below wr.heap.size wr (wr.alloc (.cells #[.int .i64 0, .string ⟨#[]⟩, .bool false, .string ⟨#[]⟩, .string ⟨#[]⟩, .int .i64 0] 40)).drew from below_drew (below_alloc (Below.refl _ _) _)).trans ((show Below (wr.alloc (.cells #[.int .i64 0, .string ⟨#[]⟩, .bool false, .string ⟨#[]⟩, .string ⟨#[]⟩, .int .i64 0] 40)).drew.heap.size (wr.alloc (.cells #[.int .i64 0, .string ⟨#[]⟩, .bool false, .string ⟨#[]⟩, .string ⟨#[]⟩, .int .i64 0] 40)).drew w3 from hb3).mono (show wr.heap.size ≤ (wr.alloc (.cells #[.int .i64 0, .string ⟨#[]⟩, .bool false, .string ⟨#[]⟩, .string ⟨#[]⟩, .int .i64 0] 40)).drew.heap.size by simp)), blk_below (w := (wr.alloc (.cells #[.int .i64 0, .string ⟨#[]⟩, .bool false, .string ⟨#[]⟩, .string ⟨#[]⟩, .int .i64 0] 40)).drew) (heap_alloc_new wr _) hb3, Nat.le_refl _⟩)
        rintro gn w9 ⟨hb9, hz9, hg9⟩
        obtain ⟨z0, z1, z2, z3, z4, z5, f0, f1, f2, f3, f4, f5⟩ := cells6 hz9
        have hHeld : w9.cell? ⟨gs, 0, none⟩ = some (.int .i64 s.pos) ∧ w9.cell? ⟨gs, 1, none⟩ = some (.string s.name) ∧ w9.cell? ⟨gs, 2, none⟩ = some (.bool s.fin) ∧ w9.cell? ⟨gs, 3, none⟩ = some (.string s.attr) ∧ w9.cell? ⟨gs, 4, none⟩ = some (.string s.held) ∧ w9.cell? ⟨gs, 5, none⟩ = some (.int .i64 s.read) ∧ w9.cell? ⟨b, 0, none⟩ = some (.string p) := ⟨pw_cell_below hb9 s0, pw_cell_below hb9 s1, pw_cell_below hb9 s2, pw_cell_below hb9 s3, pw_cell_below hb9 s4, pw_cell_below hb9 s5, pw_cell_below hb9 y0⟩
        refine norm_ (a' := ?_) ?_ ?_
        rotate_left
        · simp only [putAll, Act.put, List.setIfInBounds_toArray, List.set_cons_zero, List.set_cons_succ]
          rfl
        refine last_ (i := 9) (N := none) #[true, true, true, true, true, true, true, true, true, true] rfl rfl (by kernel_rfl) (by decide) (fun K hK => ?_)
        refine skip_ (w1 := ?_) (by rfl) rfl ?_ ?_
        rotate_left
        · go_simp
          rfl
        refine hK.out _ _ ?_
        clear hK K
        refine done_ (by kernel_rfl) ?_
        have HBW := HB.out
        have hgl : gs < wr.heap.size := blk_lt HS.out
        have N10 := set6 (s := nx) hz9 rfl
        have I10 := (HI.out.below hb9).put6 (s := nx) hz9
        have S10 : StAt (put6 w9 gn nx) gs s := put6_far (HS.out.below hb9) (by omega)
        have L10 := below6 (s := nx) (HBW.trans (hb9.mono HBW.size)) (Nat.le_trans HBW.size hg9)
        unfold Tk.put6 at I10 S10
        obtain ⟨w10, hw10⟩ : ∃ w10, ((((((w9.setCell ⟨gn, 0, none⟩ (.int .i64 nx.pos)).setCell ⟨gn, 1, none⟩ (.string nx.name)).setCell ⟨gn, 2, none⟩ (.bool nx.fin)).setCell ⟨gn, 3, none⟩ (.string nx.attr)).setCell ⟨gn, 4, none⟩ (.string nx.held)).setCell ⟨gn, 5, none⟩ (.int .i64 nx.read)) = w10 := ⟨_, rfl⟩
        rw [hw10] at N10 I10 S10 L10 ⊢
        have ht := takes_calls w w10 b gs gn p r s nx i L10 I10 S10 N10 hlt hp6 (by have := HIv.out.ats; omega) (by have := HIv.out.out; omega) (fun x hx => by have := HIv.out.vals x hx; omega) (fun h => by have := HAs.out.ends h; omega) (fun h => HAs.out.rem h) HAs.out.has HAs.out.bg
        have HT := Aside0.mk ht
        have N11 := Aside0.mk N10
        have S11 := Aside0.mk S10
        clear ht hw10 N10 I10 S10 L10 z0 z1 z2 z3 z4 z5 f0 f1 f2 f3 f4 f5 hz9 hb9 hg9 hgl s0 s1 s2 s3 s4 s5 y0 HBW HI HS HB HIv HAs HSt hrun hHeld
        go_wp2_with (go_at_call 20; refine HT.out.mono ?_; rintro e w11 hT; obtain rfl := hT.ends; have N12 := hT.st.st N11.out; have S12 := hT.st.st S11.out; obtain ⟨z0, z1, z2, z3, z4, z5, _⟩ := cells6 N12; obtain ⟨y0, y1, y2, y3, y4, y5, f0, f1, f2, f3, f4, f5⟩ := cells6 S12; have HTT := Aside0.mk hT; have S13 := Aside0.mk S12; clear hT N12 S12)
        go_roundw
        case rel => exact ⟨i + 1, by go_num, by omega, ⟨by rw [HE.out]; exact HTT.out.at_.put6 (s := nx) S13.out⟩, ⟨by rw [HE.out]; exact set6 S13.out rfl⟩, ⟨below6 HTT.out.low G4.out⟩⟩
        case measure => simp [RowKit.intOf]; omega
      · have hi2 : i = p.size := by omega
        subst hi2
        have hIv := HMI.out p.size (Nat.le_refl _)
        have hr := rest_calls w wr b gs p (mach p p.size).1 (mach p p.size).2 HB.out HI.out HS.out hp6 (by have := hIv.out; omega) hIv.fr (fun h => by
          have hp0 : (mach p p.size).2.pos ≠ 0 ∧ (mach p p.size).2.pos ≠ 19 := by
            constructor
            · intro e; unfold restB at h; rw [if_pos (Or.inl e)] at h; exact absurd h (by simp)
            · intro e; unfold restB at h; rw [if_pos (by omega)] at h; exact absurd h (by simp)
          have := hIv.open_ hp0.1 hp0.2
          omega)
        have HR := Aside0.mk hr
        clear hr hIv I4 S4 L4
        go_wp2_with (go_at_call 21; refine HR.out.mono ?_; rintro e w5 hT; obtain rfl := hT.ends; obtain ⟨A1, c1, q1⟩ := hT.at_.cells.2.2.2.2.2.2.1; have HTT := Aside0.mk hT; clear hT)
        go_ret2
        obtain ⟨_, v0, v1, hb1, hS, _⟩ := HTT.out.at_
        have e1 : w5.cell? ⟨b, 1, none⟩ = some v0 := (blk_cell hb1 1).trans rfl
        rw [q1] at e1
        obtain rfl := Option.some.inj e1
        exact ⟨_, rfl, Kd.S_mono hS (fun _ _ => trivial), HTT.out.low⟩
end Go.Proofs.YtgbaakopneldaaaDoor.Tk
end
section
namespace Go.Proofs.YtgbaakopneldaaaDoor.Tr
open Go.RowKit Go.Proofs.YtgbaakopneldaaaDoor.XK Go.Proofs.YtgbaakopneldaaaDoor.Base Go.Proofs.YtgbaakopneldaaaDoorW.PrintWords Go.Proofs.YtgbaakopneldaaaDoorW.PrintLast Go.Proofs.YtgbaakopneldaaaDoorW.PrintMore
attribute [local go_sem ↓] Go.wp_at_zero Go.wp_at_succ
set_option linter.unusedVariables false
set_option linter.unusedSimpArgs false
theorem rdA (xs : List S47) (i : Nat) (h : i < xs.length) : rd_T47 xs (i : Int) = xs[i] := by simp [rd_T47, List.getD_eq_getElem?_getD, List.getElem?_eq_getElem h]
theorem quiet_drawn2 {P : Program} {f : FuncId} {args : Array Value} {w : World} {a n : Nat} {v : Value} (h : Calls P f args (w.drewN (a + n)) fun e w' => e = .returned v ∧ Drawn0 (w.drewN (a + n)) w') : Calls P f args (w.drewN (a + n)) fun e w'' => e = .returned v ∧ ∃ m, w'' = w.drewN (a + m) :=
  h.mono fun _ _ ⟨he, ⟨⟨m, hm⟩⟩⟩ => ⟨he, n + m, by rw [hm, World.drewN_drewN, Nat.add_assoc]⟩
theorem tok_at {w : World} {A : Option Addr} {ts : List S30} (h : Kd.C k30 w A ts.length ts) (k : Nat) (hk : k < ts.length) :
    ∃ ad A3 c3, A = some ad ∧ w.cell? (ad.add (k * 5)) = some (.int .i64 ts[k].f0) ∧ w.cell? ⟨(ad.add (k * 5)).block, (ad.add (k * 5)).off + 1, none⟩ = some (.string ts[k].f1) ∧ w.cell? ⟨(ad.add (k * 5)).block, (ad.add (k * 5)).off + 2, none⟩ = some (.string ts[k].f2) ∧ w.cell? ⟨(ad.add (k * 5)).block, (ad.add (k * 5)).off + 3, none⟩ = some (.slice A3 ts[k].f3.length c3) ∧ w.cell? ⟨(ad.add (k * 5)).block, (ad.add (k * 5)).off + 4, none⟩ = some (.bool ts[k].f4) ∧ ts[k].f3.length ≤ c3 ∧ Kd.C k47 w A3 ts[k].f3.length ts[k].f3 ∧ (ad.add (k * 5)).block < w.heap.size := by
  obtain ⟨ad, A3, c3, e, g0, g1, g2, g3, g4, g5, g6⟩ := at_T30 h (k : Int) (by omega) (by omega)
  have hx : rd_T30 ts (k : Int) = ts[k] := by simp [rd_T30, List.getD_eq_getElem?_getD, List.getElem?_eq_getElem hk]
  rw [hx] at g0 g1 g2 g3 g4 g5 g6
  rw [Int.toNat_natCast] at g0 g1 g2 g3 g4
  exact ⟨ad, A3, c3, e, g0, g1, g2, g3, g4, g5, g6, World.block_lt_of_cell? _ _ g0⟩
def allEq {α : Type} (q : α → α → Bool) : List α → List α → Bool
  | [], [] => true
  | x :: a, y :: b => q x y && allEq q a b
  | _, _ => false
theorem allEq_len {α : Type} {q : α → α → Bool} : ∀ {a b : List α}, a.length ≠ b.length → allEq q a b = false
  | [], [], h => absurd rfl h
  | [], _ :: _, _ => rfl
  | _ :: _, [], _ => rfl
  | x :: a, y :: b, h => by rw [allEq, allEq_len (fun e => h (by simp [e]))]; simp
theorem allEq_eq {α : Type} {q : α → α → Bool} (hq : ∀ x y, q x y = true ↔ x = y) : ∀ {a b : List α}, allEq q a b = true ↔ a = b
  | [], [] => by simp [allEq]
  | [], _ :: _ => by simp [allEq]
  | _ :: _, [] => by simp [allEq]
  | x :: a, y :: b => by rw [allEq, Bool.and_eq_true, hq, allEq_eq hq]; simp
theorem allEq_at {α : Type} (q : α → α → Bool) (a b : List α) (k : Nat) (h1 : k < a.length) (h2 : k < b.length) : allEq q (a.drop k) (b.drop k) = (q a[k] b[k] && allEq q (a.drop (k + 1)) (b.drop (k + 1))) := by
  rw [List.drop_eq_getElem_cons h1, List.drop_eq_getElem_cons h2, allEq]
theorem bytes_eq {a b : ByteArray} : a.toList = b.toList ↔ a = b := by
  constructor
  · intro h
    rw [ByteArray.toList_eq, ByteArray.toList_eq] at h
    exact Base.ext_list h
  · rintro rfl; rfl
def attrEq (x y : S47) : Bool := (x.f0.toList == y.f0.toList) && (x.f1.toList == y.f1.toList)
theorem attrEq_iff (x y : S47) : attrEq x y = true ↔ x = y := by
  unfold attrEq
  rw [Bool.and_eq_true, beq_iff_eq, beq_iff_eq, bytes_eq, bytes_eq]
  rcases x with ⟨a, b⟩; rcases y with ⟨c, d⟩; simp
def sameA (a b : List S47) : Bool := allEq attrEq a b
theorem sameA_iff (a b : List S47) : sameA a b = true ↔ a = b := allEq_eq attrEq_iff
def tokEq (x y : S30) : Bool := decide (x.f0 = y.f0) && (x.f1.toList == y.f1.toList) && (x.f2.toList == y.f2.toList) && (x.f4 == y.f4) && sameA x.f3 y.f3
theorem tokEq_iff (x y : S30) : tokEq x y = true ↔ x = y := by
  unfold tokEq
  simp only [Bool.and_eq_true, beq_iff_eq, bytes_eq, decide_eq_true_eq, sameA_iff]
  rcases x with ⟨a, b, c, d, e⟩; rcases y with ⟨a', b', c', d', e'⟩; simp
  constructor
  · rintro ⟨⟨⟨⟨h1, h2⟩, h3⟩, h4⟩, h5⟩; exact ⟨h1, h2, h3, h5, h4⟩
  · rintro ⟨h1, h2, h3, h5, h4⟩; exact ⟨⟨⟨⟨h1, h2⟩, h3⟩, h4⟩, h5⟩
theorem sameA_ev (a b : List S47) (hl : a.length = b.length) (hm : a.length ≤ 4611686018427387904) : ∀ (d i : Nat), i + d = a.length → Ev (fun k => stolelaw0_SameAttrs.l0 k a b (i : Int)) (allEq attrEq (a.drop i) (b.drop i)) := by
  intro d
  induction d with
  | zero =>
    intro i hi
    refine Ev.step (f := fun k => _) (fun k => by rw [stolelaw0_SameAttrs.l0]) ?_
    refine Ev.neg (by omega) (Ev.cast (Ev.now true) ?_)
    rw [List.drop_eq_nil_of_le (by omega), List.drop_eq_nil_of_le (by omega)]; rfl
  | succ d ih =>
    intro i hi
    have h1 : i < a.length := by omega
    have h2 : i < b.length := by omega
    refine Ev.step (f := fun k => _) (fun k => by rw [stolelaw0_SameAttrs.l0]) ?_
    refine Ev.pos (by omega) (Ev.pos (by omega) (Ev.pos (by omega) ?_))
    rw [rdA a i h1, rdA b i h2, allEq_at _ a b i h1 h2]
    by_cases hq : attrEq a[i] b[i] = true
    · refine Ev.neg ?_ ?_
      · unfold attrEq at hq
        simp only [Bool.and_eq_true] at hq
        rw [hq.1, hq.2]; decide
      · rw [wrap_next (n := 4611686018427387904) (by omega) (by decide), hq, Bool.true_and]
        exact ih (i + 1) (by omega)
    · refine Ev.pos ?_ (Ev.cast (Ev.now false) (by rw [Bool.not_eq_true] at hq; rw [hq]; rfl))
      unfold attrEq at hq
      cases h : (a[i].f0.toList == b[i].f0.toList) <;> cases h' : (a[i].f1.toList == b[i].f1.toList) <;> simp_all
theorem sameA_calls (a b : List S47) (A B : Option Addr) (c d : Nat) (w : World) (ha : Kd.C k47 w A a.length a) (hca : a.length ≤ c) (hb : Kd.C k47 w B b.length b) (hcb : b.length ≤ d) (hm : a.length ≤ 4611686018427387904) :
    Calls Tryd.prog 22 #[.slice A a.length c, .slice B b.length d] w fun e w' => e = .returned (.bool (sameA a b)) ∧ Drawn0 w w' := by
  by_cases hl : a.length = b.length
  · obtain ⟨k, hk⟩ := (sameA_ev a b hl hm a.length 0 (by omega)).rounds
    refine stolelaw0_SameAttrs.calls k A c a B d b _ w ha hca hb hcb ?_
    unfold stolelaw0_SameAttrs.f
    rw [if_pos (by omega)]; exact hk
  · refine stolelaw0_SameAttrs.calls 0 A c a B d b _ w ha hca hb hcb ?_
    unfold stolelaw0_SameAttrs.f
    rw [if_neg (by omega)]
    unfold sameA; rw [allEq_len hl]
set_option maxHeartbeats 6400000 in
set_option maxRecDepth 100000 in
theorem sameT_calls (a b : List S30) (A B : Option Addr) (c d : Nat) (w : World) (ha : Kd.C k30 w A a.length a) (hb : Kd.C k30 w B b.length b) (hm : ∀ x ∈ a, x.f3.length ≤ 4611686018427387904) :
    Calls Tryd.prog 14 #[.slice A a.length c, .slice B b.length d] w fun e w' => e = .returned (.bool (allEq tokEq a b)) ∧ Drawn0 w w' := by
  have hla := ha.2.1
  have HA := Aside0.mk ha
  have HB := Aside0.mk hb
  have HM := Aside0.mk hm
  have hu1 := Tryd.underlying30
  clear ha hb hm
  by_cases hl : a.length = b.length
  · have hlb : ((a.length : Int) == (b.length : Int)) = true := by simp [hl]
    have hlc : ((a.length : Int) != (b.length : Int)) = false := by simp [hl]
    have HLn := Aside0.mk hl
    have hlb2 : (a.length == b.length) = true := by simp [hl]
    clear hl
    go_enter Tryd.func14, Tryd.ntmps14
    go_wp2
    go_loopw [5] (fun i wr => ∃ k m : Nat, k ≤ a.length ∧ i = .int .i64 k ∧ Aside0 (allEq tokEq a b = allEq tokEq (a.drop k) (b.drop k)) ∧ wr = w.drewN m)
      (fun i _ => a.length - (RowKit.intOf i).toNat)
    case atStart => exact ⟨0, 0, Nat.zero_le _, rfl, ⟨rfl⟩, rfl⟩
    case round =>
      obtain ⟨k, m, hk, rfl, HE, rfl⟩ := hrel
      by_cases hlt : k < a.length
      · have hltb : k < b.length := by have := HLn.out; omega
        have hi1 : (k : Int) < (b.length : Int) := by omega
        obtain ⟨ad, A3, c3, e, g0, g1, g2, g3, g4, g5, g6, _⟩ := tok_at HA.out k hlt
        cases e
        obtain ⟨bd, B3, d3, e, e0, e1, e2, e3, e4, e5, e6, _⟩ := tok_at HB.out k hltb
        cases e
        have hst := allEq_at tokEq a b k hlt hltb
        have hxm := HM.out a[k] (List.getElem_mem hlt)
        obtain ⟨x, hx⟩ : ∃ x, a[k] = x := ⟨_, rfl⟩
        obtain ⟨y, hy⟩ : ∃ y, b[k] = y := ⟨_, rfl⟩
        rw [hx] at g0 g1 g2 g3 g4 g5 g6 hst hxm
        rw [hy] at e0 e1 e2 e3 e4 e5 e6 hst
        have HSA := Aside0.mk (fun n => sameA_calls x.f3 y.f3 A3 B3 c3 d3 (w.drewN n) (Kd.C_drewN g6 n) g5 (Kd.C_drewN e6 n) e5 hxm)
        have HE2 := Aside0.mk (HE.out.trans hst)
        have HQ := Aside0.mk (show tokEq x y = _ from rfl)
        unfold tokEq at HQ
        clear hst hx hy hxm g5 g6 e5 e6 HE
        by_cases q0 : x.f0 = y.f0
        · have q0b : (x.f0 == y.f0) = true := by simpa using q0
          have q0c : (x.f0 != y.f0) = false := by simpa using q0
          cases q1 : (x.f1.toList == y.f1.toList)
          · skip
            have HF := Aside0.mk (show allEq tokEq a b = false by rw [HE2.out]; unfold tokEq; rw [q1]; simp)
            clear HE2 HQ HSA
            go_wp2
            go_quiet (fail)
            go_wp2
            go_ret
            exact ⟨by rw [HF.out]; rfl, by repeat (first | exact Drawn0.refl _ | apply Drawn0.step)⟩
          · cases q2 : (x.f2.toList == y.f2.toList)
            · skip
              have HF := Aside0.mk (show allEq tokEq a b = false by rw [HE2.out]; unfold tokEq; rw [q2]; simp)
              clear HE2 HQ HSA
              go_wp2
              go_quiet (fail)
              go_wp2
              go_ret
              exact ⟨by rw [HF.out]; rfl, by repeat (first | exact Drawn0.refl _ | apply Drawn0.step)⟩
            · cases q4 : (x.f4 == y.f4)
              · have q4c : (x.f4 != y.f4) = true := by rw [bne, q4]; rfl
                have HF := Aside0.mk (show allEq tokEq a b = false by rw [HE2.out]; unfold tokEq; rw [q4]; simp)
                clear HE2 HQ HSA
                go_wp2
                go_quiet (fail)
                go_wp2
                go_ret
                exact ⟨by rw [HF.out]; rfl, by repeat (first | exact Drawn0.refl _ | apply Drawn0.step)⟩
              · have q4c : (x.f4 != y.f4) = false := by rw [bne, q4]; rfl
                cases q3 : sameA x.f3 y.f3
                · have HF := Aside0.mk (show allEq tokEq a b = false by rw [HE2.out]; unfold tokEq; rw [q3]; simp)
                  rw [q3] at HSA
                  clear HE2 HQ q0
                  go_wp2
                  go_quiet ((go_at_call 22; exact quiet_drawn2 (HSA.out _)))
                  go_wp2
                  go_ret
                  exact ⟨by rw [HF.out]; rfl, by repeat (first | exact Drawn0.refl _ | apply Drawn0.step)⟩
                · have HF := Aside0.mk (show allEq tokEq a b = allEq tokEq (a.drop (k + 1)) (b.drop (k + 1)) by rw [HE2.out]; unfold tokEq; rw [decide_eq_true q0, q1, q2, q4, q3]; rfl)
                  rw [q3] at HSA
                  clear HE2 HQ q0
                  go_wp2
                  go_quiet ((go_at_call 22; exact quiet_drawn2 (HSA.out _)))
                  go_wp2
                  go_roundw
                  case rel => exact ⟨k + 1, _, by omega, by go_num, HF, rfl⟩
                  case measure => simp [RowKit.intOf]; omega
        · have q0b : (x.f0 == y.f0) = false := by simpa using q0
          have q0c : (x.f0 != y.f0) = true := by simpa using q0
          have HF := Aside0.mk (show allEq tokEq a b = false by rw [HE2.out]; unfold tokEq; rw [decide_eq_false q0]; simp)
          clear HE2 HQ HSA
          go_wp2
          go_quiet (fail)
          go_wp2
          go_ret
          exact ⟨by rw [HF.out]; rfl, by repeat (first | exact Drawn0.refl _ | apply Drawn0.step)⟩
      · have HF := Aside0.mk (show allEq tokEq a b = true by
          rw [HE.out, List.drop_eq_nil_of_le (by omega), List.drop_eq_nil_of_le (by have := HLn.out; omega)]; rfl)
        clear HE
        go_wp2
        go_ret
        exact ⟨by rw [HF.out]; rfl, ⟨⟨_, rfl⟩⟩⟩
  · have hlb : ((a.length : Int) == (b.length : Int)) = false := by simp; omega
    have hlc : ((a.length : Int) != (b.length : Int)) = true := by simp; omega
    have hlb2 : (a.length == b.length) = false := by simpa using hl
    have HF := Aside0.mk (allEq_len (q := tokEq) hl)
    clear hl
    go_enter Tryd.func14, Tryd.ntmps14
    go_wp2
    go_ret
    exact ⟨by rw [HF.out]; rfl, Drawn0.refl _⟩
end Go.Proofs.YtgbaakopneldaaaDoor.Tr
end
section
namespace Go.Proofs.YtgbaakopneldaaaDoor.ExtM
open Go.RowKit Go.Proofs.YtgbaakopneldaaaDoor.XK Go.Proofs.YtgbaakopneldaaaDoor.Tk Go.Proofs.YtgbaakopneldaaaDoor.Base Go.Proofs.YtgbaakopneldaaaDoorW.PrintWords Go.Proofs.YtgbaakopneldaaaDoorW.PrintLast Go.Proofs.YtgbaakopneldaaaDoorW.PrintMore
open Go.Proofs.YtgbaakopneldaaaDoor.Ln (MaxAt)
set_option linter.unusedVariables false
def Tabs (w : World) : Prop := ∃ m, MaxAt m w
theorem tabs_below {w w' : World} (h : Tabs w) (hb : Below w.heap.size w w') : Tabs w' := h.imp fun _ hm => hm.below hb
theorem nil_beq (l : List UInt8) : (l == ([] : List UInt8)) = l.isEmpty := by cases l <;> rfl
def tok_Tokens.f (a0 : ByteArray) : Option (List S30 × Int) := some (tokensF a0)
theorem tok_Tokens.calls (a0 : ByteArray) (r1 : List S30) (r2 : Int) (w : World) (hT : Tabs w) (h : tok_Tokens.f a0 = some (r1, r2)) :
    Calls Tryd.prog 11 #[.string a0] w fun e w' => ∃ v0_ : Value, e = .returned (.tuple #[v0_, .int .i64 r2]) ∧ Kd.S k30 30 w' w.heap.size (fun _ => True) v0_ r1 ∧ Below w.heap.size w w' := by
  have h := Option.some.inj h
  obtain ⟨m, hm⟩ := hT
  refine (tokens_calls a0 m w hm).mono ?_
  rintro e w' ⟨v, rfl, h2, h3⟩
  rw [h] at h2
  exact ⟨v, by rw [h], h2, h3⟩
def stolelaw0_SameTokens.f (l0 l1 : List S30) : Option Bool := if (l0.all fun x => decide (x.f3.length ≤ 4611686018427387904)) = true then some (Tr.allEq Tr.tokEq l0 l1) else none
theorem stolelaw0_SameTokens.calls (A0 : Option Addr) (c0 : Nat) (l0 : List S30) (A1 : Option Addr) (c1 : Nat) (l1 : List S30) (r : Bool) (w : World) (hr0 : Kd.C k30 w A0 l0.length l0) (hc0 : l0.length ≤ c0) (hr1 : Kd.C k30 w A1 l1.length l1) (hc1 : l1.length ≤ c1) (h : stolelaw0_SameTokens.f l0 l1 = some r) :
    Calls Tryd.prog 14 #[.slice A0 l0.length c0, .slice A1 l1.length c1] w fun e w' => e = .returned (.bool r) ∧ Drawn0 w w' := by
  unfold stolelaw0_SameTokens.f at h
  by_cases hs : (l0.all fun x => decide (x.f3.length ≤ 4611686018427387904)) = true
  · rw [if_pos hs] at h
    obtain rfl := Option.some.inj h
    refine Tr.sameT_calls l0 l1 A0 A1 c0 c1 w hr0 hr1 (fun x hx => ?_)
    rw [List.all_eq_true] at hs
    exact of_decide_eq_true (hs x hx)
  · rw [if_neg hs] at h; cases h
abbrev Six : Type := Int × ByteArray × Bool × ByteArray × ByteArray × Int
def six (s : St) : Six := (s.pos, s.name, s.fin, s.attr, s.held, s.read)
def tok_Step.f (a0 : Int) (a1 : ByteArray) (a2 : Bool) (a3 a4 : ByteArray) (a5 c : Int) : Option (Int × ByteArray × Bool × ByteArray × ByteArray × Int) :=
  if 0 ≤ a0 ∧ a0 ≤ 22 ∧ a4.size ≤ 4611686018427387904 ∧ 0 ≤ c ∧ c < 256 then some (six (stepS ⟨a0, a1, a2, a3, a4, a5⟩ c.toNat)) else none
theorem tok_Step.calls (a0 : Int) (a1 : ByteArray) (a2 : Bool) (a3 a4 : ByteArray) (a5 c : Int) (r1 : Int) (r2 : ByteArray) (r3 : Bool) (r4 r5 : ByteArray) (r6 : Int) (w : World) (h : tok_Step.f a0 a1 a2 a3 a4 a5 c = some (r1, r2, r3, r4, r5, r6)) :
    Calls Tryd.prog 15 #[.agg #[.int .i64 a0, .string a1, .bool a2, .string a3, .string a4, .int .i64 a5], .int .u8 c] w fun e w' => e = .returned (.agg #[.int .i64 r1, .string r2, .bool r3, .string r4, .string r5, .int .i64 r6]) ∧ Below w.heap.size w w' := by
  unfold tok_Step.f at h
  by_cases hs : 0 ≤ a0 ∧ a0 ≤ 22 ∧ a4.size ≤ 4611686018427387904 ∧ 0 ≤ c ∧ c < 256
  · rw [if_pos hs] at h
    have h := Option.some.inj h
    unfold six at h
    simp only [Prod.mk.injEq] at h
    obtain ⟨e1, e2, e3, e4, e5, e6⟩ := h
    obtain ⟨n, rfl⟩ : ∃ n : Nat, c = n := ⟨c.toNat, by omega⟩
    rw [Int.toNat_natCast] at e1 e2 e3 e4 e5 e6
    subst e1 e2 e3 e4 e5 e6
    exact step_calls ⟨a0, a1, a2, a3, a4, a5⟩ n w (by omega) hs.1 hs.2.1 hs.2.2.1
  · rw [if_neg hs] at h; cases h
def tok_Start.f : Option (Int × ByteArray × Bool × ByteArray × ByteArray × Int) := some (six (atS 0))
theorem tok_Start.calls (r1 : Int) (r2 : ByteArray) (r3 : Bool) (r4 r5 : ByteArray) (r6 : Int) (w : World) (h : tok_Start.f = some (r1, r2, r3, r4, r5, r6)) :
    Calls Tryd.prog 19 #[] w fun e w' => e = .returned (.agg #[.int .i64 r1, .string r2, .bool r3, .string r4, .string r5, .int .i64 r6]) ∧ Below w.heap.size w w' := by
  have h := Option.some.inj h
  unfold six at h
  simp only [Prod.mk.injEq] at h
  obtain ⟨e1, e2, e3, e4, e5, e6⟩ := h
  subst e1 e2 e3 e4 e5 e6
  exact start_calls w
end Go.Proofs.YtgbaakopneldaaaDoor.ExtM
end
section
namespace Go.Proofs.YtgbaakopneldaaaDoor.Ext
abbrev T : Bool := true
abbrev F : Bool := false
end Go.Proofs.YtgbaakopneldaaaDoor.Ext
end
section
namespace Go.Proofs.YtgbaakopneldaaaDoor.XL
open Go.RowKit Go.Proofs.YtgbaakopneldaaaDoor.ExtM Go.Proofs.YtgbaakopneldaaaDoor.XK Go.Proofs.YtgbaakopneldaaaDoorW.PrintWords Go.Proofs.YtgbaakopneldaaaDoorW.PrintLast Go.Proofs.YtgbaakopneldaaaDoorW.PrintMore
attribute [local go_sem] max2_int min2_int max_two min_two max_three min_three max_four min_four   -- for this text's walks alone
set_option linter.unusedVariables false
set_option linter.unusedSimpArgs false
-- the values' own types
/-! #### struct type 47 -/
/-! #### struct type 30 -/
theorem k30_mkF (W : World) (ok : Nat → Prop) (x : S30) {A3 : Option Addr} {c3 : Nat} (l3 : x.f3.length ≤ c3) (g3 : Kd.F k47 W ok A3 x.f3.length x.f3) : Kd.FK k30 W ok x [.int .i64 x.f0, .string x.f1, .string x.f2, .slice A3 x.f3.length c3, .bool x.f4] := fun W2 hW => k30_mk W2 x l3 (g3 W2 hW)
theorem at_T30 {w : World} {A : Option Addr} {n : Nat} {xs : List S30} (h : Kd.C k30 w A n xs) (i : Int) (h0 : 0 ≤ i) (h1 : i < n) : ∃ ad A3 c3, A = some ad ∧ w.cell? (ad.add (i.toNat * 5)) = some (.int .i64 (rd_T30 xs i).f0) ∧ w.cell? ⟨(ad.add (i.toNat * 5)).block, (ad.add (i.toNat * 5)).off + 1, none⟩ = some (.string (rd_T30 xs i).f1) ∧ w.cell? ⟨(ad.add (i.toNat * 5)).block, (ad.add (i.toNat * 5)).off + 2, none⟩ = some (.string (rd_T30 xs i).f2) ∧ w.cell? ⟨(ad.add (i.toNat * 5)).block, (ad.add (i.toNat * 5)).off + 3, none⟩ = some (.slice A3 (rd_T30 xs i).f3.length c3) ∧ w.cell? ⟨(ad.add (i.toNat * 5)).block, (ad.add (i.toNat * 5)).off + 4, none⟩ = some (.bool (rd_T30 xs i).f4) ∧ (rd_T30 xs i).f3.length ≤ c3 ∧ k47.C w A3 (rd_T30 xs i).f3.length (rd_T30 xs i).f3 := by
  obtain ⟨ad, c, e, _, hK, hc0⟩ := Kd.C_get h z30 i h0 h1
  have hc : ∀ j u, c[j]? = some u → w.cell? (ad.add (i.toNat * 5 + j)) = some u := hc0
  obtain ⟨A3, c3, rfl, l3, g3⟩ := k30_open hK
  exact ⟨ad, A3, c3, e, hc 0 _ rfl, by rw [← add_field _ _ 1 (by omega)]; exact hc 1 _ rfl, by rw [← add_field _ _ 2 (by omega)]; exact hc 2 _ rfl, by rw [← add_field _ _ 3 (by omega)]; exact hc 3 _ rfl, by rw [← add_field _ _ 4 (by omega)]; exact hc 4 _ rfl, l3, g3⟩
/-! #### struct type 40 -/
structure S40 where
  f0 : Int
  f1 : ByteArray
  f2 : Bool
  f3 : ByteArray
  f4 : ByteArray
  f5 : Int
def z40 : S40 := ⟨(0 : Int), (⟨#[]⟩ : ByteArray), false, (⟨#[]⟩ : ByteArray), (⟨#[]⟩ : ByteArray), (0 : Int)⟩
def k40 : Kd S40 := Kd.iso (Kd.pair (Kd.int .i64) (Kd.pair Kd.string (Kd.pair Kd.bool (Kd.pair Kd.string (Kd.pair Kd.string (Kd.int .i64)))))) (fun x : S40 => (x.f0, x.f1, x.f2, x.f3, x.f4, x.f5))
theorem k40_open {w : World} {x : S40} {cs : List Value} (h : k40.K w x cs) : cs = [.int .i64 x.f0, .string x.f1, .bool x.f2, .string x.f3, .string x.f4, .int .i64 x.f5] := by
  obtain ⟨_, _, rfl, rfl, ⟨_, _, rfl, rfl, ⟨_, _, rfl, rfl, ⟨_, _, rfl, rfl, ⟨_, _, rfl, rfl, rfl⟩⟩⟩⟩⟩ := h
  exact rfl
theorem k40_mkM (w : World) (base : Nat) (ok : Nat → Prop) (x : S40)  : k40.M w base ok x [.int .i64 x.f0, .string x.f1, .bool x.f2, .string x.f3, .string x.f4, .int .i64 x.f5] := ⟨[.int .i64 x.f0], [.string x.f1, .bool x.f2, .string x.f3, .string x.f4, .int .i64 x.f5], rfl, rfl, ⟨[.string x.f1], [.bool x.f2, .string x.f3, .string x.f4, .int .i64 x.f5], rfl, rfl, ⟨[.bool x.f2], [.string x.f3, .string x.f4, .int .i64 x.f5], rfl, rfl, ⟨[.string x.f3], [.string x.f4, .int .i64 x.f5], rfl, rfl, ⟨[.string x.f4], [.int .i64 x.f5], rfl, rfl, rfl⟩⟩⟩⟩⟩
def rd_T40 (xs : List S40) (i : Int) : S40 := xs.getD i.toNat z40
theorem at_T40 {w : World} {A : Option Addr} {n : Nat} {xs : List S40} (h : Kd.C k40 w A n xs) (i : Int) (h0 : 0 ≤ i) (h1 : i < n) : ∃ ad , A = some ad ∧ w.cell? (ad.add (i.toNat * 6)) = some (.int .i64 (rd_T40 xs i).f0) ∧ w.cell? ⟨(ad.add (i.toNat * 6)).block, (ad.add (i.toNat * 6)).off + 1, none⟩ = some (.string (rd_T40 xs i).f1) ∧ w.cell? ⟨(ad.add (i.toNat * 6)).block, (ad.add (i.toNat * 6)).off + 2, none⟩ = some (.bool (rd_T40 xs i).f2) ∧ w.cell? ⟨(ad.add (i.toNat * 6)).block, (ad.add (i.toNat * 6)).off + 3, none⟩ = some (.string (rd_T40 xs i).f3) ∧ w.cell? ⟨(ad.add (i.toNat * 6)).block, (ad.add (i.toNat * 6)).off + 4, none⟩ = some (.string (rd_T40 xs i).f4) ∧ w.cell? ⟨(ad.add (i.toNat * 6)).block, (ad.add (i.toNat * 6)).off + 5, none⟩ = some (.int .i64 (rd_T40 xs i).f5) := by
  obtain ⟨ad, c, e, _, hK, hc0⟩ := Kd.C_get h z40 i h0 h1
  have hc : ∀ j u, c[j]? = some u → w.cell? (ad.add (i.toNat * 6 + j)) = some u := hc0
  obtain rfl := k40_open hK
  exact ⟨ad, e, hc 0 _ rfl, by rw [← add_field _ _ 1 (by omega)]; exact hc 1 _ rfl, by rw [← add_field _ _ 2 (by omega)]; exact hc 2 _ rfl, by rw [← add_field _ _ 3 (by omega)]; exact hc 3 _ rfl, by rw [← add_field _ _ 4 (by omega)]; exact hc 4 _ rfl, by rw [← add_field _ _ 5 (by omega)]; exact hc 5 _ rfl⟩
end Go.Proofs.YtgbaakopneldaaaDoor.XL
end
