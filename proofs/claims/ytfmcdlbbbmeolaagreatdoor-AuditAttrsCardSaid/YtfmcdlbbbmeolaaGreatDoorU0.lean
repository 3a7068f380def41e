/- Library contracts, laid by the kit's shelf tools for this translation. Texts, plainly: how long a text's first sign is, and its norm: lists of bytes alone, no program. refs: plain functions of the same answers. refs: the small functions: what they answer. refs.numbered, refs.named, refs.meant. strings.Builder at this translation: copyCheck and WriteString on a builder of the call's own (the shelf's text of copyCheck is another: its panic is a refused statement here). utf.sign and utf.Norm: what they answer, for every text whose norm fits. utf.Norm in the print's form. strings.Builder at this translation: WriteByte on a builder of the call's own. refs.meant, refs.Encode, refs.Decode. -/
import Derived.Test.YtfmcdlbbbmeolaaGreatDoorY1
import Derived.Test.YtfmcdlbbbmeolaaGreatDoorY0
import Derived.Shelf.Strings.Builder1
import Derived.Shelf.Strings.Builder2
import Derived.Shelf.Small.Utf8
import Derived.Shelf.Small.Strs
import Derived.Shelf.Strings.BuilderF
import Derived.Shelf.Strings.BuilderK
import Derived.Shelf.Strconv.Itoa0
import Derived.Shelf.Strconv.Itoa1
import Derived.Shelf.LaysM
import Derived.Shelf.Strconv.Itoa2
import Derived.Shelf.Strconv.Itoa3
import Derived.Shelf.Strings.Search1
import Derived.Shelf.Strings.Search2
import Derived.Shelf.Strings.Search3
import Derived.Shelf.Strings.Cut
import Derived.Shelf.Strings.Count
import Derived.Shelf.Strings.Shaped
import Derived.Shelf.Strings.Prefix
import Derived.Shelf.Strings.Split
import Derived.Shelf.Strings.Replace
import Derived.Shelf.Strings.SplitShaped
import Derived.Shelf.Unicode.DecodeSlow
import Derived.Shelf.Unicode.DecodeAny
import Derived.Test.YtfmcdlbbbmeolaaGreatDoorProg
import Derived.Lib.DecodeN
import Derived.Lib.Strings
import Derived.Lib.Small
import Derived.Lib.Bytealg
import Derived.BigCall
import Derived.Laws.Runes
import Derived.Deep.QuietTactic
import Derived.BigQuiet
import Derived.WalkKit
section
/- Short names for what the walks say often. -/
namespace Go.Proofs.YtfmcdlbbbmeolaaGreatDoor
abbrev I : Bool := true
abbrev O : Bool := false
theorem zA {α : Type} (l : List α) (i : Nat) (a : α) : l.toArray.setIfInBounds i a = (l.set i a).toArray := by simp
theorem zZ {α : Type} (x a : α) (xs : List α) : (x :: xs).set 0 a = a :: xs := rfl
theorem zS {α : Type} (x a : α) (xs : List α) (n : Nat) : (x :: xs).set (n + 1) a = x :: xs.set n a := rfl
open Go.RowKit Go.Proofs.YtfmcdlbbbmeolaaGreatDoorW.PrintWords Go.Proofs.YtfmcdlbbbmeolaaGreatDoorW.PrintLast
section
variable {P : Program} {md : Region.Mode} {ops : Array Oper} {Q : Exit → Act → World → Prop} {S : World → Prop} {ds : List Nat}
theorem pS (i : Nat) (N : Nat) {oi : Oper} {v : Value} {fuel : Nat} {l : Array Bool} {a a' : Act} {w : World} (l' : Array Bool) (h : wpAnyLast P md ops Q S ds fuel l' a' w)
    (hi : ops[i]? = some oi := by rfl) (hN : oi.dst = some N := by rfl) (hc : anyB md ops l l' i = true := by kernel_rfl) (hQ : ∀ c a w, Q (.panic c) (a.put oi.dst v) w → Q (.panic c) a w := by exact fun _ _ _ h => h)
    (hw : Region.wanted oi (yielded ops a.tmps) = true := by rfl) (hy : ∀ w, (execOp a.eval oi).run P w = .ok (.value v) w := by intro w'; go_simp; with_reducible rfl)
    (ha : a.put (some N) v = a' := by simp only [Act.put, zA, zZ, zS, i64_w, i32_w]; rfl) : wpAnyLast P md ops Q S ds (fuel + 1) l a w :=
  pure_ l' hi hN hc hQ (Or.inl ⟨hw, hy⟩) ha h
theorem tS (i : Nat) (N : Nat) {oi : Oper} {v : Value} {fuel : Nat} {l : Array Bool} {a a' : Act} {w : World} (l' : Array Bool) (hS : S w) (h : wpAnyLast P md ops Q S ds fuel l' a' w)
    (hi : ops[i]? = some oi := by rfl) (hN : oi.dst = some N := by rfl) (hc : takeB md ops ds l l' i = true := by kernel_rfl) (hQ : ∀ c a w, Q (.panic c) (a.put oi.dst v) w → Q (.panic c) a w := by exact fun _ _ _ h => h)
    (hw : Region.wanted oi (yielded ops a.tmps) = true := by rfl) (hy : ∀ w, S w → (execOp a.eval oi).run P w = .ok (.value v) w := by intro w' s0; go_simp; with_reducible rfl)
    (ha : a.put (some N) v = a' := by simp only [Act.put, zA, zZ, zS, i64_w, i32_w]; rfl) : wpAnyLast P md ops Q S ds (fuel + 1) l a w :=
  take_ l' hi hN hc hQ (Or.inl ⟨hw, hy⟩) hS ha h
end
end Go.Proofs.YtfmcdlbbbmeolaaGreatDoor
end
section
namespace Go.Proofs
open Go.Shelf
def Tryz.lays169_ren : Go.Shelf.Ren := ⟨fun | 169 => 68 | n => n, fun | 70 => 106 | 9 => 9 | 0 => 0 | 72 => 108 | 37 => 37 | 127 => 142 | 3 => 3 | 5 => 5 | n => n, fun | n => n⟩
theorem Tryz.lays169 : Go.Proofs.Lays.n169 Tryz.prog Tryz.lays169_ren := {
  mixed := by kernel_rfl
  f169 := Tryz.func68.trans (congrArg some (by kernel_rfl))
  t0 := Tryz.underlying0
  a0 := Tryz.isAgg0
  z0 := Tryz.sizeOf0
  v0 := Tryz.zeroValue0
  t3 := Tryz.underlying3
  a3 := Tryz.isAgg3
  z3 := Tryz.sizeOf3
  v3 := Tryz.zeroValue3
  t9 := Tryz.underlying9
  a9 := Tryz.isAgg9
  z9 := Tryz.sizeOf9
  v9 := Tryz.zeroValue9
  t37 := Tryz.underlying37
  a37 := Tryz.isAgg37
  z37 := Tryz.sizeOf37
  v37 := Tryz.zeroValue37
  t70 := Tryz.underlying106
  a70 := Tryz.isAgg106
  z70 := Tryz.sizeOf106
  v70 := Tryz.zeroValue106
  t72 := Tryz.underlying108
  a72 := Tryz.isAgg108
  z72 := Tryz.sizeOf108
  v72 := Tryz.zeroValue108
  t127 := Tryz.underlying142
  a127 := Tryz.isAgg142
  z127 := Tryz.sizeOf142
  v127 := Tryz.zeroValue142 }
theorem Tryz.Builder_Extra_169 : Builder.Extra Tryz.prog Tryz.lays169_ren := {
  sizeBuilder := by kernel_rfl
  liesBuilder := by kernel_rfl
  t5 := Tryz.underlying5
  a5 := Tryz.isAgg5
  z5 := Tryz.sizeOf5
  v5 := Tryz.zeroValue5
  infoByte := by kernel_rfl
  cellsByte := by kernel_rfl
  sizeByte := by kernel_rfl
  neB5 := by decide }
def Tryz.lays119_ren : Go.Shelf.Ren := ⟨fun | 119 => 247 | n => n, fun | 21 => 21 | 4 => 4 | n => n, fun | n => n⟩
theorem Tryz.lays119 : Go.Proofs.Lays.n119 Tryz.prog Tryz.lays119_ren := {
  mixed := by kernel_rfl
  f119 := Tryz.func247.trans (congrArg some (by kernel_rfl))
  t4 := Tryz.underlying4
  a4 := Tryz.isAgg4
  z4 := Tryz.sizeOf4
  v4 := Tryz.zeroValue4
  t21 := Tryz.underlying21
  a21 := Tryz.isAgg21
  z21 := Tryz.sizeOf21
  v21 := Tryz.zeroValue21 }
theorem Tryz.utf8_ValidRune (r : Int) (w : World) :
    Calls Tryz.prog 247 #[.int .i32 r] w fun e w' => e = .returned (.bool (Lib.validRune r)) ∧ w' = w := Any.utf8_ValidRune Tryz.lays119 r w
def Tryz.lays137_ren : Go.Shelf.Ren := ⟨fun | 137 => 185 | 217 => 218 | 266 => 241 | n => n, fun | 9 => 9 | 5 => 5 | 3 => 3 | n => n, fun | n => n⟩
theorem Tryz.lays137 : Go.Proofs.Lays.n137 Tryz.prog Tryz.lays137_ren := {
  mixed := by kernel_rfl
  f137 := Tryz.func185.trans (congrArg some (by kernel_rfl))
  f217 := Tryz.func218.trans (congrArg some (by kernel_rfl))
  f266 := Tryz.func241.trans (congrArg some (by kernel_rfl))
  t3 := Tryz.underlying3
  a3 := Tryz.isAgg3
  z3 := Tryz.sizeOf3
  v3 := Tryz.zeroValue3
  t5 := Tryz.underlying5
  a5 := Tryz.isAgg5
  z5 := Tryz.sizeOf5
  v5 := Tryz.zeroValue5
  t9 := Tryz.underlying9
  a9 := Tryz.isAgg9
  z9 := Tryz.sizeOf9
  v9 := Tryz.zeroValue9 }
open Go.RowKit in
theorem Tryz.strings_IndexByte (s : ByteArray) (c : Int) (w : World) :
    Calls Tryz.prog 185 #[.string s, .int .u8 c] w fun e w' => e = .returned (.int .i64 (Lib.indexByte s.data.toList c.toNat.toUInt8)) ∧ w' = w := Any.strings_IndexByte Tryz.lays137 s c w
open Go.RowKit in
theorem Tryz.Builder_String_any_f (B b : Nat) (l : List UInt8) (w : World) (h : Lib.IsBuilderF 108 5 B b (Lib.byteCells l) w) (hBw : B ≤ w.heap.size) :
    Calls Tryz.prog 68 #[.pointer (some ⟨b, 0, none⟩)] w fun e w' => e = .returned (.string ⟨l.toArray⟩) ∧ (Lib.IsBuilderF 108 5 B b (Lib.byteCells l) w' ∧ Below B w w') := Any.Builder_String_any_f Tryz.lays169 Tryz.Builder_Extra_169 B b l w h hBw
def Tryz.laysM171_ren : Go.Shelf.Ren := ⟨fun | 171 => 67 | 243 => 129 | 246 => 180 | 283 => 212 | 284 => 213 | 285 => 214 | 286 => 215 | 129 => 234 | 317 => 233 | 318 => 235 | 319 => 236 | 320 => 237 | 337 => 248 | 338 => 249 | n => n, fun | 3 => 3 | 9 => 9 | 2 => 2 | 4 => 4 | 171 => 197 | 0 => 0 | 53 => 99 | 37 => 37 | 5 => 5 | 173 => 200 | 212 => 227 | 51 => 205 | 20 => 20 | 213 => 228 | 46 => 67 | 232 => 257 | 233 => 258 | n => n, fun | 17 => 0 | 18 => 4 | 19 => 5 | n => n⟩
theorem Tryz.laysM171 : Go.Proofs.LaysM.n171 Tryz.prog Tryz.laysM171_ren := {
  mixed := by kernel_rfl
  f129 := Tryz.func234.trans (congrArg some (by kernel_rfl))
  f171 := Tryz.func67.trans (congrArg some (by kernel_rfl))
  f243 := Tryz.func129.trans (congrArg some (by kernel_rfl))
  f246 := Tryz.func180.trans (congrArg some (by kernel_rfl))
  f283 := Tryz.func212.trans (congrArg some (by kernel_rfl))
  f284 := Tryz.func213.trans (congrArg some (by kernel_rfl))
  f285 := Tryz.func214.trans (congrArg some (by kernel_rfl))
  f286 := Tryz.func215.trans (congrArg some (by kernel_rfl))
  f317 := Tryz.func233.trans (congrArg some (by kernel_rfl))
  f318 := Tryz.func235.trans (congrArg some (by kernel_rfl))
  f319 := Tryz.func236.trans (congrArg some (by kernel_rfl))
  f320 := Tryz.func237.trans (congrArg some (by kernel_rfl))
  f337 := Tryz.func248.trans (congrArg some (by kernel_rfl))
  f338 := Tryz.func249.trans (congrArg some (by kernel_rfl))
  t0 := Tryz.underlying0
  a0 := Tryz.isAgg0
  z0 := Tryz.sizeOf0
  v0 := Tryz.zeroValue0
  t2 := Tryz.underlying2
  a2 := Tryz.isAgg2
  z2 := Tryz.sizeOf2
  v2 := Tryz.zeroValue2
  t3 := Tryz.underlying3
  a3 := Tryz.isAgg3
  z3 := Tryz.sizeOf3
  v3 := Tryz.zeroValue3
  t4 := Tryz.underlying4
  a4 := Tryz.isAgg4
  z4 := Tryz.sizeOf4
  v4 := Tryz.zeroValue4
  t5 := Tryz.underlying5
  a5 := Tryz.isAgg5
  z5 := Tryz.sizeOf5
  v5 := Tryz.zeroValue5
  t9 := Tryz.underlying9
  a9 := Tryz.isAgg9
  z9 := Tryz.sizeOf9
  v9 := Tryz.zeroValue9
  t20 := Tryz.underlying20
  a20 := Tryz.isAgg20
  z20 := Tryz.sizeOf20
  v20 := Tryz.zeroValue20
  t37 := Tryz.underlying37
  a37 := Tryz.isAgg37
  z37 := Tryz.sizeOf37
  v37 := Tryz.zeroValue37
  t46 := Tryz.underlying67
  a46 := Tryz.isAgg67
  z46 := Tryz.sizeOf67
  v46 := Tryz.zeroValue67
  t51 := Tryz.underlying205
  a51 := Tryz.isAgg205
  z51 := Tryz.sizeOf205
  v51 := Tryz.zeroValue205
  t53 := Tryz.underlying99
  a53 := Tryz.isAgg99
  z53 := Tryz.sizeOf99
  v53 := Tryz.zeroValue99
  t171 := Tryz.underlying197
  a171 := Tryz.isAgg197
  z171 := Tryz.sizeOf197
  v171 := Tryz.zeroValue197
  t173 := Tryz.underlying200
  a173 := Tryz.isAgg200
  z173 := Tryz.sizeOf200
  v173 := Tryz.zeroValue200
  t212 := Tryz.underlying227
  a212 := Tryz.isAgg227
  z212 := Tryz.sizeOf227
  v212 := Tryz.zeroValue227
  t213 := Tryz.underlying228
  a213 := Tryz.isAgg228
  z213 := Tryz.sizeOf228
  t232 := Tryz.underlying257
  a232 := Tryz.isAgg257
  z232 := Tryz.sizeOf257
  v232 := Tryz.zeroValue257
  t233 := Tryz.underlying258
  a233 := Tryz.isAgg258
  z233 := Tryz.sizeOf258
  v233 := Tryz.zeroValue258
  g17 := by kernel_rfl
  g18 := by kernel_rfl
  g19 := by kernel_rfl
  i0 := by kernel_rfl
  i2 := by kernel_rfl
  i3 := by kernel_rfl
  i4 := by kernel_rfl
  i5 := by kernel_rfl
  i9 := by kernel_rfl
  i20 := by kernel_rfl
  i37 := by kernel_rfl
  i46 := by kernel_rfl
  i51 := by kernel_rfl
  i53 := by kernel_rfl
  i171 := by kernel_rfl
  i173 := by kernel_rfl
  i212 := by kernel_rfl
  i232 := by kernel_rfl
  i233 := by kernel_rfl
  m17 := by kernel_rfl
  m18 := by kernel_rfl
  m19 := by kernel_rfl }
open Go.RowKit Go.Sort Go.Lib in
theorem Tryz.strconv_Itoa (n : Int) (h0 : -9223372036854775808 ≤ n) (h1 : n ≤ 9223372036854775807) (w : World) (htab : Lib.TabIs Tryz.prog w "internal/strconv.uint64pow10" .u64 Lib.pow10Tab) :
    Calls Tryz.prog 67 #[.int .i64 n] w fun e w' => e = .returned (.string ⟨(Lib.itoa n).toArray⟩) ∧ ∃ k os, w' = grow (w.drewN k) os := Any.strconv_Itoa Tryz.laysM171 n h0 h1 w htab
def Tryz.lays143_ren : Go.Shelf.Ren := ⟨fun | 143 => 189 | 219 => 221 | 217 => 218 | 225 => 242 | 224 => 243 | 267 => 244 | 266 => 241 | 314 => 256 | n => n, fun | 9 => 9 | 3 => 3 | 4 => 4 | 5 => 5 | 46 => 67 | 146 => 255 | 51 => 205 | n => n, fun | 1 => 1 | n => n⟩
theorem Tryz.lays143 : Go.Proofs.Lays.n143 Tryz.prog Tryz.lays143_ren := {
  mixed := by kernel_rfl
  f143 := Tryz.func189.trans (congrArg some (by kernel_rfl))
  f217 := Tryz.func218.trans (congrArg some (by kernel_rfl))
  f219 := Tryz.func221.trans (congrArg some (by kernel_rfl))
  f224 := Tryz.func243.trans (congrArg some (by kernel_rfl))
  f225 := Tryz.func242.trans (congrArg some (by kernel_rfl))
  f266 := Tryz.func241.trans (congrArg some (by kernel_rfl))
  f267 := Tryz.func244.trans (congrArg some (by kernel_rfl))
  f314 := Tryz.func256.trans (congrArg some (by kernel_rfl))
  t3 := Tryz.underlying3
  a3 := Tryz.isAgg3
  z3 := Tryz.sizeOf3
  v3 := Tryz.zeroValue3
  t4 := Tryz.underlying4
  a4 := Tryz.isAgg4
  z4 := Tryz.sizeOf4
  v4 := Tryz.zeroValue4
  t5 := Tryz.underlying5
  a5 := Tryz.isAgg5
  z5 := Tryz.sizeOf5
  v5 := Tryz.zeroValue5
  t9 := Tryz.underlying9
  a9 := Tryz.isAgg9
  z9 := Tryz.sizeOf9
  v9 := Tryz.zeroValue9
  t46 := Tryz.underlying67
  a46 := Tryz.isAgg67
  z46 := Tryz.sizeOf67
  v46 := Tryz.zeroValue67
  t51 := Tryz.underlying205
  a51 := Tryz.isAgg205
  z51 := Tryz.sizeOf205
  v51 := Tryz.zeroValue205
  t146 := Tryz.underlying255
  a146 := Tryz.isAgg255
  z146 := Tryz.sizeOf255
  v146 := Tryz.zeroValue255
  g1 := by kernel_rfl }
open Go.RowKit Go.Lib in
theorem Tryz.strings_Index (s sub : ByteArray) (m : Int) (w : World) (hs : s.size < 4294967281) (hm : w.cell? ⟨1, 0, none⟩ = some (.int .i64 m)) :
    Calls Tryz.prog 189 #[.string s, .string sub] w fun e w' => e = .returned (.int .i64 (Lib.index s.data.toList sub.data.toList)) ∧ w' = w := Any.strings_Index Tryz.lays143 s sub m w hs hm
def Tryz.lays138_ren : Go.Shelf.Ren := ⟨fun | 138 => 188 | 195 => 219 | 218 => 220 | 143 => 189 | 219 => 221 | 217 => 218 | 225 => 242 | 224 => 243 | 267 => 244 | 266 => 241 | 314 => 256 | n => n, fun | 9 => 9 | 3 => 3 | 4 => 4 | 5 => 5 | 0 => 0 | 46 => 67 | 146 => 255 | 51 => 205 | n => n, fun | 1 => 1 | n => n⟩
theorem Tryz.lays138 : Go.Proofs.Lays.n138 Tryz.prog Tryz.lays138_ren := {
  mixed := by kernel_rfl
  f138 := Tryz.func188.trans (congrArg some (by kernel_rfl))
  f143 := Tryz.func189.trans (congrArg some (by kernel_rfl))
  f195 := Tryz.func219.trans (congrArg some (by kernel_rfl))
  f217 := Tryz.func218.trans (congrArg some (by kernel_rfl))
  f218 := Tryz.func220.trans (congrArg some (by kernel_rfl))
  f219 := Tryz.func221.trans (congrArg some (by kernel_rfl))
  f224 := Tryz.func243.trans (congrArg some (by kernel_rfl))
  f225 := Tryz.func242.trans (congrArg some (by kernel_rfl))
  f266 := Tryz.func241.trans (congrArg some (by kernel_rfl))
  f267 := Tryz.func244.trans (congrArg some (by kernel_rfl))
  f314 := Tryz.func256.trans (congrArg some (by kernel_rfl))
  t0 := Tryz.underlying0
  a0 := Tryz.isAgg0
  z0 := Tryz.sizeOf0
  v0 := Tryz.zeroValue0
  t3 := Tryz.underlying3
  a3 := Tryz.isAgg3
  z3 := Tryz.sizeOf3
  v3 := Tryz.zeroValue3
  t4 := Tryz.underlying4
  a4 := Tryz.isAgg4
  z4 := Tryz.sizeOf4
  v4 := Tryz.zeroValue4
  t5 := Tryz.underlying5
  a5 := Tryz.isAgg5
  z5 := Tryz.sizeOf5
  v5 := Tryz.zeroValue5
  t9 := Tryz.underlying9
  a9 := Tryz.isAgg9
  z9 := Tryz.sizeOf9
  v9 := Tryz.zeroValue9
  t46 := Tryz.underlying67
  a46 := Tryz.isAgg67
  z46 := Tryz.sizeOf67
  v46 := Tryz.zeroValue67
  t51 := Tryz.underlying205
  a51 := Tryz.isAgg205
  z51 := Tryz.sizeOf205
  v51 := Tryz.zeroValue205
  t146 := Tryz.underlying255
  a146 := Tryz.isAgg255
  z146 := Tryz.sizeOf255
  v146 := Tryz.zeroValue255
  g1 := by kernel_rfl }
open Go.RowKit Go.Lib in
theorem Tryz.strings_Count_one (s : ByteArray) (c : UInt8) (w : World) :
    Calls Tryz.prog 188 #[.string s, .string ⟨#[c]⟩] w fun e w' => e = .returned (.int .i64 (Lib.countByte s.data.toList c)) ∧ w' = w := Any.strings_Count_one Tryz.lays138 s c w
open Go.RowKit Go.Lib in
theorem Tryz.strings_Count (s sub : ByteArray) (m : Int) (w : World) (hs : s.size < 4294967281) (hm : w.cell? ⟨1, 0, none⟩ = some (.int .i64 m)) (h2 : 2 ≤ sub.size) :
    Calls Tryz.prog 188 #[.string s, .string sub] w fun e w' => e = .returned (.int .i64 (Lib.countB s sub)) ∧ w' = w := Any.strings_Count Tryz.lays138 s sub m w hs hm h2
def Tryz.laysM143_ren : Go.Shelf.Ren := ⟨fun | 143 => 189 | 219 => 221 | 217 => 218 | 225 => 242 | 224 => 243 | 267 => 244 | 266 => 241 | 314 => 256 | n => n, fun | 9 => 9 | 3 => 3 | 4 => 4 | 5 => 5 | 46 => 67 | 146 => 255 | 51 => 205 | n => n, fun | 1 => 1 | n => n⟩
theorem Tryz.laysM143 : Go.Proofs.LaysM.n143 Tryz.prog Tryz.laysM143_ren := {
  mixed := by kernel_rfl
  f143 := Tryz.func189.trans (congrArg some (by kernel_rfl))
  f217 := Tryz.func218.trans (congrArg some (by kernel_rfl))
  f219 := Tryz.func221.trans (congrArg some (by kernel_rfl))
  f224 := Tryz.func243.trans (congrArg some (by kernel_rfl))
  f225 := Tryz.func242.trans (congrArg some (by kernel_rfl))
  f266 := Tryz.func241.trans (congrArg some (by kernel_rfl))
  f267 := Tryz.func244.trans (congrArg some (by kernel_rfl))
  f314 := Tryz.func256.trans (congrArg some (by kernel_rfl))
  t3 := Tryz.underlying3
  a3 := Tryz.isAgg3
  z3 := Tryz.sizeOf3
  v3 := Tryz.zeroValue3
  t4 := Tryz.underlying4
  a4 := Tryz.isAgg4
  z4 := Tryz.sizeOf4
  v4 := Tryz.zeroValue4
  t5 := Tryz.underlying5
  a5 := Tryz.isAgg5
  z5 := Tryz.sizeOf5
  v5 := Tryz.zeroValue5
  t9 := Tryz.underlying9
  a9 := Tryz.isAgg9
  z9 := Tryz.sizeOf9
  v9 := Tryz.zeroValue9
  t46 := Tryz.underlying67
  a46 := Tryz.isAgg67
  z46 := Tryz.sizeOf67
  v46 := Tryz.zeroValue67
  t51 := Tryz.underlying205
  a51 := Tryz.isAgg205
  z51 := Tryz.sizeOf205
  v51 := Tryz.zeroValue205
  t146 := Tryz.underlying255
  a146 := Tryz.isAgg255
  z146 := Tryz.sizeOf255
  v146 := Tryz.zeroValue255
  g1 := by kernel_rfl
  i3 := by kernel_rfl
  i4 := by kernel_rfl
  i5 := by kernel_rfl
  i9 := by kernel_rfl
  i46 := by kernel_rfl
  i51 := by kernel_rfl
  i146 := by kernel_rfl
  m1 := by kernel_rfl
  s1_3 := fun w h => Go.Proofs.cell_of_shapedOpen_int (zero := #[.int .i64 0]) (t := 3) h (of_decide_eq_true (by kernel_rfl)) (by kernel_rfl) rfl (by kernel_rfl) (by kernel_rfl) Tryz.underlying3 }
def Tryz.lays206_ren : Go.Shelf.Ren := ⟨fun | 206 => 186 | n => n, fun | 9 => 9 | 4 => 4 | 3 => 3 | n => n, fun | n => n⟩
theorem Tryz.lays206 : Go.Proofs.Lays.n206 Tryz.prog Tryz.lays206_ren := {
  mixed := by kernel_rfl
  f206 := Tryz.func186.trans (congrArg some (by kernel_rfl))
  t3 := Tryz.underlying3
  a3 := Tryz.isAgg3
  z3 := Tryz.sizeOf3
  v3 := Tryz.zeroValue3
  t4 := Tryz.underlying4
  a4 := Tryz.isAgg4
  z4 := Tryz.sizeOf4
  v4 := Tryz.zeroValue4
  t9 := Tryz.underlying9
  a9 := Tryz.isAgg9
  z9 := Tryz.sizeOf9
  v9 := Tryz.zeroValue9 }
open Go.RowKit Go.Lib in
theorem Tryz.stringslite_HasPrefix (s p : ByteArray) (w : World) :
    Calls Tryz.prog 186 #[.string s, .string p] w fun e w' => e = .returned (.bool (Lib.hasPrefix s.data.toList p.data.toList)) ∧ w' = w := Any.stringslite_HasPrefix Tryz.lays206 s p w
def Tryz.lays99_ren : Go.Shelf.Ren := ⟨fun | 99 => 136 | 206 => 186 | n => n, fun | 9 => 9 | 4 => 4 | 3 => 3 | n => n, fun | n => n⟩
theorem Tryz.lays99 : Go.Proofs.Lays.n99 Tryz.prog Tryz.lays99_ren := {
  mixed := by kernel_rfl
  f99 := Tryz.func136.trans (congrArg some (by kernel_rfl))
  f206 := Tryz.func186.trans (congrArg some (by kernel_rfl))
  t3 := Tryz.underlying3
  a3 := Tryz.isAgg3
  z3 := Tryz.sizeOf3
  v3 := Tryz.zeroValue3
  t4 := Tryz.underlying4
  a4 := Tryz.isAgg4
  z4 := Tryz.sizeOf4
  v4 := Tryz.zeroValue4
  t9 := Tryz.underlying9
  a9 := Tryz.isAgg9
  z9 := Tryz.sizeOf9
  v9 := Tryz.zeroValue9 }
open Go.RowKit Go.Lib in
theorem Tryz.strings_HasPrefix (s p : ByteArray) (w : World) :
    Calls Tryz.prog 136 #[.string s, .string p] w fun e w' => e = .returned (.bool (Lib.hasPrefix s.data.toList p.data.toList)) ∧ w' = w := Any.strings_HasPrefix Tryz.lays99 s p w
end Go.Proofs
end
section
namespace Go.Proofs.YtfmcdlbbbmeolaaGreatDoor.Utf
end Go.Proofs.YtfmcdlbbbmeolaaGreatDoor.Utf
end
section
namespace Go.Proofs.YtfmcdlbbbmeolaaGreatDoor.Refs
open Go.Lib
def lowN (c : Nat) : Nat := if 65 ≤ c ∧ c ≤ 90 then c + 32 else c
def digN (c base : Nat) : Nat := let d := lowN c; if 48 ≤ d ∧ d ≤ 57 then d - 48 else if 97 ≤ d ∧ d ≤ 102 then d - 97 + 10 else base
def numGo : List UInt8 → Nat → Nat → Option Nat
  | [], _, x => some x
  | c :: l, base, x => if base ≤ digN c.toNat base then none else numGo l base (x * base + digN c.toNat base)
def runeOf (x : Nat) : Nat := if x = 0 ∨ 1114111 < x ∨ Lib.validRune x = false then 65533 else x
def numL (l : List UInt8) (base most : Nat) : Option (List UInt8) :=
  if l = [] ∨ most < l.length then none else (numGo l base 0).map fun x => (Utf8.encode (runeOf x : Nat)).data.toList
def nameL (l : List UInt8) : Option (List UInt8) :=
  if l = [97, 109, 112] then some [38] else if l = [108, 116] then some [60] else if l = [103, 116] then some [62] else if l = [113, 117, 111, 116] then some [34]
  else if l = [97, 112, 111, 115] then some [39] else if l = [110, 98, 115, 112] then some [194, 160] else if l = [99, 111, 112, 121] then some [194, 169] else none
def meantL (l : List UInt8) : Option (List UInt8) :=
  if hasPrefix l [35, 120] = true ∨ hasPrefix l [35, 88] = true then numL (l.drop 2) 16 6
  else if hasPrefix l [35] = true then numL (l.drop 1) 10 7 else nameL l
def refAt (l : List UInt8) : Option (List UInt8 × Nat) :=
  if 0 < indexByte (l.take 11) 59 then (meantL ((l.take (indexByte (l.take 11) 59).toNat).drop 1)).map fun x => (x, (indexByte (l.take 11) 59).toNat + 1) else none
def decF : Nat → List UInt8 → List UInt8
  | 0, _ => []
  | _ + 1, [] => []
  | n + 1, c :: l => if c = 38 then match refAt (c :: l) with
      | some (x, k) => x ++ decF n (l.drop (k - 1))
      | none => c :: decF n l
    else c :: decF n l
def decL (l : List UInt8) : List UInt8 := decF l.length l
theorem decF_eq : ∀ (n m : Nat) (l : List UInt8), l.length ≤ n → l.length ≤ m → decF n l = decF m l
  | 0, m, l, h, _ => by
    obtain rfl : l = [] := List.eq_nil_of_length_eq_zero (by omega)
    cases m <;> rfl
  | n + 1, 0, l, _, h => by
    obtain rfl : l = [] := List.eq_nil_of_length_eq_zero (by omega)
    rfl
  | n + 1, m + 1, [], _, _ => rfl
  | n + 1, m + 1, c :: l, h1, h2 => by
    simp only [List.length_cons] at h1 h2
    have hl := decF_eq n m l (by omega) (by omega)
    unfold decF
    split
    · cases refAt (c :: l) with
      | none => simp only [hl]
      | some p => simp only [decF_eq n m (l.drop (p.2 - 1)) (by rw [List.length_drop]; omega) (by rw [List.length_drop]; omega)]
    · rw [hl]
theorem decL_nil : decL [] = [] := rfl
theorem decL_plain (c : UInt8) (l : List UInt8) (h : c ≠ 38) : decL (c :: l) = c :: decL l := by
  show decF (l.length + 1) (c :: l) = _
  unfold decF
  rw [if_neg h]; rfl
theorem decL_none (c : UInt8) (l : List UInt8) (h : refAt (c :: l) = none) : decL (c :: l) = c :: decL l := by
  show decF (l.length + 1) (c :: l) = _
  unfold decF
  split
  · rw [h]; rfl
  · rfl
theorem decL_some (l : List UInt8) (x : List UInt8) (k : Nat) (h : refAt (38 :: l) = some (x, k + 1)) : decL (38 :: l) = x ++ decL (l.drop k) := by
  show decF (l.length + 1) (38 :: l) = _
  unfold decF
  rw [if_pos rfl, h]
  show x ++ decF l.length (l.drop k) = x ++ decF (l.drop k).length (l.drop k)
  rw [decF_eq _ _ (l.drop k) (by rw [List.length_drop]; omega) (Nat.le_refl _)]
theorem encode_len (r : Int) : (Utf8.encode r).size ≤ 4 := by
  unfold Utf8.encode; dsimp only; repeat' split
  all_goals first | (show 1 ≤ 4; omega) | (show 2 ≤ 4; omega) | (show 3 ≤ 4; omega) | (show 4 ≤ 4; omega)
theorem numL_len {l : List UInt8} {b m : Nat} {x : List UInt8} (h : numL l b m = some x) : x.length ≤ 4 ∧ l ≠ [] := by
  unfold numL at h
  split at h
  · cases h
  · rename_i hc
    obtain ⟨y, _, hy⟩ := Option.map_eq_some_iff.1 h
    refine ⟨?_, fun e => hc (.inl e)⟩
    rw [← hy]
    have := encode_len (runeOf y : Nat)
    rwa [Lib.size_eq] at this
theorem nameL_len {l x : List UInt8} (h : nameL l = some x) : x.length ≤ l.length := by
  unfold nameL at h
  repeat' split at h
  all_goals first | (cases h; done) | (injection h with h; subst h; subst l; decide)
theorem meantL_len {l x : List UInt8} (h : meantL l = some x) : x.length ≤ l.length + 2 := by
  unfold meantL at h
  split at h
  · obtain ⟨h1, h2⟩ := numL_len h
    have : (l.drop 2).length ≠ 0 := fun e => h2 (List.eq_nil_of_length_eq_zero e)
    simp only [List.length_drop] at this
    omega
  · split at h
    · obtain ⟨h1, h2⟩ := numL_len h
      have : (l.drop 1).length ≠ 0 := fun e => h2 (List.eq_nil_of_length_eq_zero e)
      simp only [List.length_drop] at this
      omega
    · have := nameL_len h; omega
theorem indexByte_lt (l : List UInt8) (c : UInt8) : -1 ≤ indexByte l c ∧ indexByte l c < l.length := by
  induction l with
  | nil => simp [indexByte]
  | cons b l ih =>
    unfold indexByte
    split
    · simp
    · split
      · simp; omega
      · simp only [List.length_cons]; omega
theorem refAt_len {l x : List UInt8} {k : Nat} (h : refAt l = some (x, k)) : x.length ≤ k ∧ 0 < k ∧ k ≤ l.length := by
  unfold refAt at h
  split at h
  · obtain ⟨y, hy, hk⟩ := Option.map_eq_some_iff.1 h
    injection hk with h1 h2
    subst h1
    have a := meantL_len hy
    have b := indexByte_lt (l.take 11) 59
    simp only [List.length_drop, List.length_take] at a b
    omega
  · cases h
end Go.Proofs.YtfmcdlbbbmeolaaGreatDoor.Refs
end
section
namespace Go.Proofs.YtfmcdlbbbmeolaaGreatDoor.Refs
open Go.RowKit Go.Lib Go.Proofs.YtfmcdlbbbmeolaaGreatDoorW.PrintWords Go.Proofs.YtfmcdlbbbmeolaaGreatDoorW.PrintLast Go.Proofs.YtfmcdlbbbmeolaaGreatDoorW.PrintMore
set_option maxRecDepth 100000
theorem lowByte_calls (c : Nat) (w : World) :
    Calls Tryz.prog 183 #[.int .u8 (c : Int)] w fun e w' => e = .returned (.int .u8 (lowN c : Nat)) ∧ w = w' := by
  by_cases h1 : 65 ≤ c
  · have d1 : decide ((65 : Int) ≤ (c : Int)) = true := decide_eq_true (by omega)
    by_cases h2 : c ≤ 90
    · have d2 : decide ((c : Int) ≤ 90) = true := decide_eq_true (by omega)
      have hf : ((lowN c : Nat) : Int) = (c : Int) + 32 := by unfold lowN; rw [if_pos ⟨h1, h2⟩]; omega
      have HF := Aside0.mk hf
      clear hf
      have g1 : (65 : Int) ≤ c := by omega
      have g2 : (c : Int) ≤ 90 := by omega
      go_enter Tryz.func183, Tryz.ntmps183
      go_wp2
      go_ret
      refine ⟨?_, rfl⟩
      rw [HF.out]
      show Ending.returned (Value.int .u8 _) = _
      congr 2
      omega
    · have d2 : decide ((c : Int) ≤ 90) = false := decide_eq_false (by omega)
      have hf : lowN c = c := by unfold lowN; rw [if_neg (fun h => h2 h.2)]
      have HF := Aside0.mk hf
      clear hf
      go_enter Tryz.func183, Tryz.ntmps183
      go_wp2
      go_ret
      exact ⟨by rw [HF.out]; rfl, rfl⟩
  · have d1 : decide ((65 : Int) ≤ (c : Int)) = false := decide_eq_false (by omega)
    have hf : lowN c = c := by unfold lowN; rw [if_neg (fun h => h1 h.1)]
    have HF := Aside0.mk hf
    clear hf
    go_enter Tryz.func183, Tryz.ntmps183
    go_wp2
    go_ret
    exact ⟨by rw [HF.out]; rfl, rfl⟩
theorem digit_calls0 (c : Nat) (w : World) :
    Calls Tryz.prog 184 #[.int .u8 (c : Int)] w fun e w' => e = .returned (.bool (decide (48 ≤ c ∧ c ≤ 57))) ∧ w = w' := by
  by_cases h1 : 48 ≤ c
  · have d1 : decide ((48 : Int) ≤ (c : Int)) = true := decide_eq_true (by omega)
    by_cases h2 : c ≤ 57
    · have d2 : decide ((c : Int) ≤ 57) = true := decide_eq_true (by omega)
      have hf : decide (48 ≤ c ∧ c ≤ 57) = true := decide_eq_true ⟨h1, h2⟩
      have HF := Aside0.mk hf
      clear hf h1 h2
      go_enter Tryz.func184, Tryz.ntmps184
      go_wp2
      go_ret
      exact ⟨by rw [HF.out]; rfl, rfl⟩
    · have d2 : decide ((c : Int) ≤ 57) = false := decide_eq_false (by omega)
      have hf : decide (48 ≤ c ∧ c ≤ 57) = false := decide_eq_false (fun h => h2 h.2)
      have HF := Aside0.mk hf
      clear hf h1 h2
      go_enter Tryz.func184, Tryz.ntmps184
      go_wp2
      go_ret
      exact ⟨by rw [HF.out]; rfl, rfl⟩
  · have d1 : decide ((48 : Int) ≤ (c : Int)) = false := decide_eq_false (by omega)
    have hf : decide (48 ≤ c ∧ c ≤ 57) = false := decide_eq_false (fun h => h1 h.1)
    have HF := Aside0.mk hf
    clear hf h1
    go_enter Tryz.func184, Tryz.ntmps184
    go_wp2
    go_ret
    exact ⟨by rw [HF.out]; rfl, rfl⟩
theorem digit_calls (c base : Nat) (w : World) :
    Calls Tryz.prog 246 #[.int .u8 (c : Int), .int .i64 (base : Int)] w fun e w' => e = .returned (.int .i64 (digN c base : Nat)) ∧ w = w' := by
  obtain ⟨d, hd⟩ : ∃ d, lowN c = d := ⟨_, rfl⟩
  have hl := lowByte_calls c w
  rw [hd] at hl
  have hf : digN c base = if 48 ≤ d ∧ d ≤ 57 then d - 48 else if 97 ≤ d ∧ d ≤ 102 then d - 97 + 10 else base := by unfold digN; rw [hd]
  have hg := digit_calls0 d w
  have HL := Aside0.mk hl
  clear hl hd
  by_cases h1 : 48 ≤ d ∧ d ≤ 57
  · rw [if_pos h1] at hf
    rw [decide_eq_true h1] at hg
    have HG := Aside0.mk hg
    have hf' : ((digN c base : Nat) : Int) = (d : Int) - 48 := by omega
    have HF := Aside0.mk hf'
    have g1 : (48 : Int) ≤ d := by omega
    have g2 : (d : Int) ≤ 57 := by omega
    clear hf hg hf'
    go_enter Tryz.func246, Tryz.ntmps246
    go_wp2_with (first | (go_at_call 183; refine HL.out.mono ?_; rintro e w1 ⟨rfl, rfl⟩) | (go_at_call 184; refine HG.out.mono ?_; rintro e w1 ⟨rfl, rfl⟩))
    go_ret
    exact ⟨by rw [HF.out]; rfl, rfl⟩
  · rw [if_neg h1] at hf
    rw [decide_eq_false h1] at hg
    have HG := Aside0.mk hg
    by_cases h2 : 97 ≤ d
    · have d1 : decide ((97 : Int) ≤ (d : Int)) = true := decide_eq_true (by omega)
      by_cases h3 : d ≤ 102
      · have d2 : decide ((d : Int) ≤ 102) = true := decide_eq_true (by omega)
        rw [if_pos ⟨h2, h3⟩] at hf
        have hf' : ((digN c base : Nat) : Int) = (d : Int) - 97 + 10 := by omega
        have HF := Aside0.mk hf'
        have g1 : (97 : Int) ≤ d := by omega
        have g2 : (d : Int) ≤ 102 := by omega
        clear hf hg hf' h1
        go_enter Tryz.func246, Tryz.ntmps246
        go_wp2_with (first | (go_at_call 183; refine HL.out.mono ?_; rintro e w1 ⟨rfl, rfl⟩) | (go_at_call 184; refine HG.out.mono ?_; rintro e w1 ⟨rfl, rfl⟩))
        go_ret
        exact ⟨by rw [HF.out]; rfl, rfl⟩
      · have d2 : decide ((d : Int) ≤ 102) = false := decide_eq_false (by omega)
        rw [if_neg (fun h => h3 h.2)] at hf
        have HF := Aside0.mk hf
        clear hf hg h1
        go_enter Tryz.func246, Tryz.ntmps246
        go_wp2_with (first | (go_at_call 183; refine HL.out.mono ?_; rintro e w1 ⟨rfl, rfl⟩) | (go_at_call 184; refine HG.out.mono ?_; rintro e w1 ⟨rfl, rfl⟩))
        go_ret
        exact ⟨by rw [HF.out]; rfl, rfl⟩
    · have d1 : decide ((97 : Int) ≤ (d : Int)) = false := decide_eq_false (by omega)
      rw [if_neg (fun h => h2 h.1)] at hf
      have HF := Aside0.mk hf
      clear hf hg h1
      go_enter Tryz.func246, Tryz.ntmps246
      go_wp2_with (first | (go_at_call 183; refine HL.out.mono ?_; rintro e w1 ⟨rfl, rfl⟩) | (go_at_call 184; refine HG.out.mono ?_; rintro e w1 ⟨rfl, rfl⟩))
      go_ret
      exact ⟨by rw [HF.out]; rfl, rfl⟩
end Go.Proofs.YtfmcdlbbbmeolaaGreatDoor.Refs
end
section
namespace Go.Proofs.YtfmcdlbbbmeolaaGreatDoor.Refs
open Go.RowKit Go.Lib Go.Proofs.YtfmcdlbbbmeolaaGreatDoorW.PrintWords Go.Proofs.YtfmcdlbbbmeolaaGreatDoorW.PrintLast Go.Proofs.YtfmcdlbbbmeolaaGreatDoorW.PrintMore
def optV : Option (List UInt8) → Value
  | some x => .tuple #[.string ⟨x.toArray⟩, .bool true]
  | none => .tuple #[.string ⟨#[]⟩, .bool false]
theorem optV_some (b : ByteArray) : optV (some b.data.toList) = .tuple #[.string b, .bool true] := by
  rcases b with ⟨a⟩
  show Value.tuple #[.string ⟨a.toList.toArray⟩, .bool true] = _
  rw [Array.toArray_toList]
theorem numGo_cons (c : UInt8) (l : List UInt8) (base x : Nat) : numGo (c :: l) base x = if base ≤ digN c.toNat base then none else numGo l base (x * base + digN c.toNat base) := rfl
theorem empty_of {s : ByteArray} (h : s.data.toList = []) : s = ⟨#[]⟩ := by
  rcases s with ⟨⟨l⟩⟩; simp at h; rw [h]
theorem nempty_of {s : ByteArray} (h : s.data.toList ≠ []) : s.toList.isEmpty = false := by
  rw [Lib.toList_data]
  cases h' : s.data.toList with
  | nil => exact absurd h' h
  | cons _ _ => rfl
theorem len_size (s : ByteArray) : s.data.toList.length = s.size := by rw [Array.length_toList]; rfl
set_option maxHeartbeats 1600000 in
theorem numbered_calls (s : ByteArray) (base most : Nat) (w : World) (hb : 1 ≤ base ∧ base ≤ 16) (hm : most ≤ 7) :
    Calls Tryz.prog 231 #[.string s, .int .i64 (base : Int), .int .i64 (most : Int)] w fun e w' => e = .returned (optV (numL s.data.toList base most)) ∧ Below w.heap.size w w' := by
  by_cases he : s.data.toList = []
  · obtain rfl := empty_of he
    have hf : numL (⟨#[]⟩ : ByteArray).data.toList base most = none := by unfold numL; rw [if_pos (.inl rfl)]
    have HF := Aside0.mk hf
    clear hf he
    go_enter Tryz.func231, Tryz.ntmps231
    go_wp2
    go_ret2
    exact ⟨by rw [HF.out]; rfl, Below.refl _ _⟩
  · have hne := nempty_of he
    have hl := len_size s
    by_cases hlong : most < s.size
    · have hf : numL s.data.toList base most = none := by unfold numL; rw [if_pos (.inr (by rw [hl]; exact hlong))]
      have HF := Aside0.mk hf
      have d1 : decide ((most : Int) < (s.size : Int)) = true := decide_eq_true (by omega)
      have d2 : decide (most < s.size) = true := decide_eq_true hlong
      clear hf he hl
      go_enter Tryz.func231, Tryz.ntmps231
      go_wp2
      go_ret2
      exact ⟨by rw [HF.out]; rfl, Below.refl _ _⟩
    · have hf : numL s.data.toList base most = (numGo s.data.toList base 0).map fun x => (Utf8.encode (runeOf x : Nat)).data.toList := by
        unfold numL; rw [if_neg (fun h => h.elim he (fun h => hlong (by rw [hl] at h; exact h)))]
      have HF := Aside0.mk hf
      have d1 : decide ((most : Int) < (s.size : Int)) = false := decide_eq_false (by omega)
      have d2 : decide (most < s.size) = false := decide_eq_false hlong
      have HL := Aside0.mk hl
      have hs7 : s.size ≤ 7 := by omega
      clear hf he hl hlong
      go_enter Tryz.func231, Tryz.ntmps231
      go_wp2
      clear d1 d2 hne
      go_loopw [8, 21] (fun x i wr => ∃ (k y : Nat), k ≤ s.size ∧ x = .int .i64 (y : Int) ∧ i = .int .i64 (k : Int) ∧ y < 16 ^ k ∧ wr = w ∧ numGo s.data.toList base 0 = numGo (s.data.toList.drop k) base y)
        (fun _ i _ => s.size - (RowKit.intOf i).toNat)
      case atStart => exact ⟨0, 0, Nat.zero_le _, rfl, rfl, by decide, rfl, rfl⟩
      case round =>
        obtain ⟨k, y, hk, rfl, rfl, hy, rfl, hg⟩ := hrel
        by_cases hlt : k < s.size
        · have hcons : s.data.toList.drop k = s[k] :: s.data.toList.drop (k + 1) := by
            rw [List.drop_eq_getElem_cons (by rw [HL.out]; exact hlt)]; rfl
          rw [hcons] at hg
          rw [numGo_cons] at hg
          obtain ⟨d, hd⟩ : ∃ d, digN (s[k]).toNat base = d := ⟨_, rfl⟩
          have hc := digit_calls (s[k]).toNat base wr
          rw [hd] at hg hc
          have HC := Aside0.mk hc
          clear hc hd hcons
          by_cases hge : base ≤ d
          · rw [if_pos hge] at hg
            have hfin : numL s.data.toList base most = none := by rw [HF.out, hg]; rfl
            have HG := Aside0.mk hfin
            have d1 : decide ((base : Int) ≤ (d : Int)) = true := decide_eq_true (by omega)
            have d2 : decide (base ≤ d) = true := decide_eq_true hge
            clear hg hfin HF HL hge
            go_wp2_with (go_at_call 246; refine HC.out.mono ?_; rintro e w1 ⟨rfl, rfl⟩)
            go_ret2
            exact ⟨by rw [HG.out]; rfl, Below.refl _ _⟩
          · rw [if_neg hge] at hg
            have HG := Aside0.mk hg
            have d1 : decide ((base : Int) ≤ (d : Int)) = false := decide_eq_false (by omega)
            have d2 : decide (base ≤ d) = false := decide_eq_false hge
            have hpow : 16 ^ k ≤ 16 ^ 6 := Nat.pow_le_pow_right (by decide) (by omega)
            have hy2 : y < 16777216 := Nat.lt_of_lt_of_le hy hpow
            have hyb : y * base ≤ 16777215 * 16 := Nat.mul_le_mul (by omega) (by omega)
            have hstep : y * base + d < 16 ^ (k + 1) := by
              have h1 : y * base + base ≤ 16 ^ k * 16 := by
                have : (y + 1) * base ≤ 16 ^ k * 16 := Nat.mul_le_mul (by omega) (by omega)
                rwa [Nat.add_mul, Nat.one_mul] at this
              rw [Nat.pow_succ]; omega
            have HP := Aside0.mk hstep
            have m0 : (0 : Int) ≤ (y : Int) * (base : Int) := Int.mul_nonneg (by omega) (by omega)
            have m1 : (y : Int) * (base : Int) ≤ 268435440 := by
              have : ((y * base : Nat) : Int) ≤ ((16777215 * 16 : Nat) : Int) := by exact_mod_cast hyb
              rw [Int.natCast_mul] at this; omega
            clear hg HF hpow hyb hstep hy
            go_wp2_with (go_at_call 246; refine HC.out.mono ?_; rintro e w1 ⟨rfl, rfl⟩)
            go_roundw
            case rel => exact ⟨k + 1, y * base + d, by omega, by push_cast; rfl, by go_num, HP.out, trivial, HG.out⟩
            case measure => simp [RowKit.intOf]; omega
        · have hnil : s.data.toList.drop k = [] := List.drop_eq_nil_of_le (by rw [HL.out]; omega)
          rw [hnil] at hg
          have hfin : numL s.data.toList base most = some (Utf8.encode (runeOf y : Nat)).data.toList := by rw [HF.out, hg]; rfl
          have HG := Aside0.mk hfin
          have hpow : 16 ^ k ≤ 16 ^ 7 := Nat.pow_le_pow_right (by decide) (by omega)
          have hy2 : y < 268435456 := Nat.lt_of_lt_of_le hy hpow
          clear hg hfin HF hnil hy hpow
          have hv := Tryz.utf8_ValidRune (y : Int) wr
          by_cases h0 : y = 0
          · have c1 : ((y : Int) == 0) = true := by rw [h0]; rfl
            have hr : runeOf y = 65533 := by unfold runeOf; rw [if_pos (.inl h0)]
            rw [hr] at HG
            clear hr hv h0
            go_wp2
            go_ret2
            exact ⟨by rw [HG.out]; rfl, Below.refl _ _⟩
          · have c1 : ((y : Int) == 0) = false := by rw [beq_eq_false_iff_ne]; omega
            by_cases h1 : 1114111 < y
            · have c2 : decide ((1114111 : Int) < (y : Int)) = true := decide_eq_true (by omega)
              have hr : runeOf y = 65533 := by unfold runeOf; rw [if_pos (.inr (.inl h1))]
              rw [hr] at HG
              clear hr hv h0
              go_wp2
              go_ret2
              exact ⟨by rw [HG.out]; rfl, Below.refl _ _⟩
            · have c2 : decide ((1114111 : Int) < (y : Int)) = false := decide_eq_false (by omega)
              cases hvr : Lib.validRune (y : Int) with
              | false =>
                have hr : runeOf y = 65533 := by unfold runeOf; rw [if_pos (.inr (.inr hvr))]
                rw [hr] at HG
                rw [hvr] at hv
                have HV := Aside0.mk hv
                clear hr hv h0 hvr
                go_wp2_with (go_at_call 247; refine HV.out.mono ?_; rintro e w1 ⟨rfl, rfl⟩)
                go_ret2
                exact ⟨by rw [HG.out]; rfl, Below.refl _ _⟩
              | true =>
                have hr : runeOf y = y := by unfold runeOf; rw [if_neg (fun h => h.elim h0 (fun h => h.elim h1 (fun h => by rw [hvr] at h; cases h)))]
                rw [hr] at HG
                rw [hvr] at hv
                have HV := Aside0.mk hv
                clear hr hv h0 hvr
                go_wp2_with (go_at_call 247; refine HV.out.mono ?_; rintro e w1 ⟨rfl, rfl⟩)
                go_ret2
                exact ⟨by rw [HG.out, optV_some]; rfl, Below.refl _ _⟩
def nameT : List (List UInt8 × List UInt8) := [([97, 109, 112], [38]), ([108, 116], [60]), ([103, 116], [62]), ([113, 117, 111, 116], [34]), ([97, 112, 111, 115], [39]), ([110, 98, 115, 112], [194, 160]), ([99, 111, 112, 121], [194, 169])]
def nameIn : List (List UInt8 × List UInt8) → List UInt8 → Option (List UInt8)
  | [], _ => none
  | x :: t, l => if l = x.1 then some x.2 else nameIn t l
def nameFrom (k : Nat) (l : List UInt8) : Option (List UInt8) := nameIn (nameT.drop k) l
def nameA : Array Value := #[.string ⟨#[97, 109, 112]⟩, .string ⟨#[38]⟩, .string ⟨#[108, 116]⟩, .string ⟨#[60]⟩, .string ⟨#[103, 116]⟩, .string ⟨#[62]⟩, .string ⟨#[113, 117, 111, 116]⟩, .string ⟨#[34]⟩, .string ⟨#[97, 112, 111, 115]⟩, .string ⟨#[39]⟩, .string ⟨#[110, 98, 115, 112]⟩, .string ⟨#[194, 160]⟩, .string ⟨#[99, 111, 112, 121]⟩, .string ⟨#[194, 169]⟩]
theorem nameL_from (l : List UInt8) : nameL l = nameFrom 0 l := rfl
theorem index_arr (w : World) (cs : Array Value) (k : Nat) (hk : k < 7) : (Instr.index 239 (.agg cs) (.int .i64 (k : Int))).run Tryz.prog w = .ok (.agg (cs.extract (k * 2) (k * 2 + 2))) w := by
  have h1 : (0 : Int) ≤ k ∧ (k : Int) < (7 : Nat) := by omega
  simp [Instr.index, run_underlying Tryz.underlying239, asIntOf, part, go_sem, Tryz.isAgg238, Tryz.sizeOf238, hk]
set_option maxHeartbeats 1600000 in
theorem named_calls (s : ByteArray) (w : World) :
    Calls Tryz.prog 232 #[.string s] w fun e w' => e = .returned (optV (nameL s.data.toList)) ∧ Below w.heap.size w w' := by
  go_enter Tryz.func232, Tryz.ntmps232
  go_wp2
  go_loopw [14] (fun i wr => ∃ k : Nat, k ≤ 7 ∧ i = .int .i64 (k : Int) ∧ Below w.heap.size w wr ∧ nameL s.data.toList = nameFrom k s.data.toList)
    (fun i _ => 7 - (RowKit.intOf i).toNat)
  case atStart => exact ⟨0, by decide, rfl, Below.refl _ _, nameL_from _⟩
  case round =>
    obtain ⟨k, hk, rfl, hb, hg⟩ := hrel
    have HB := Aside0.mk hb
    have HG := Aside0.mk hg
    clear hb hg
    rcases k with _ | _ | _ | _ | _ | _ | _ | _ | k
    · have hi' : (Instr.index 239 (.agg nameA) (.int .i64 0)).run Tryz.prog wr = .ok (.agg #[.string ⟨#[97, 109, 112]⟩, .string ⟨#[38]⟩]) wr := index_arr wr nameA 0 (by decide)
      unfold nameA at hi'
      by_cases h : s.data.toList = [97, 109, 112]
      · have h1 : ([97, 109, 112] == s.toList) = true := by rw [Lib.toList_data, h]; rfl
        have hf : nameL s.data.toList = some [38] := by rw [HG.out, h]; rfl
        have HF := Aside0.mk hf
        clear hf h HG
        go_wp2
        go_ret2
        exact ⟨by rw [HF.out]; rfl, HB.out.alloc HB.out.size _⟩
      · have h1 : ([97, 109, 112] == s.toList) = false := by rw [Lib.toList_data, beq_eq_false_iff_ne]; exact fun e => h e.symm
        have hg : nameL s.data.toList = nameFrom 1 s.data.toList := by rw [HG.out]; show nameIn (([97, 109, 112], [38]) :: nameT.drop 1) s.data.toList = _; unfold nameIn; rw [if_neg h]; rfl
        have HF := Aside0.mk hg
        clear hg h HG
        go_wp2
        go_roundw
        case rel => exact ⟨1, by decide, rfl, HB.out.alloc HB.out.size _, HF.out⟩
        case measure => simp [RowKit.intOf]
    · have hi' : (Instr.index 239 (.agg nameA) (.int .i64 1)).run Tryz.prog wr = .ok (.agg #[.string ⟨#[108, 116]⟩, .string ⟨#[60]⟩]) wr := index_arr wr nameA 1 (by decide)
      unfold nameA at hi'
      by_cases h : s.data.toList = [108, 116]
      · have h1 : ([108, 116] == s.toList) = true := by rw [Lib.toList_data, h]; rfl
        have hf : nameL s.data.toList = some [60] := by rw [HG.out, h]; rfl
        have HF := Aside0.mk hf
        clear hf h HG
        go_wp2
        go_ret2
        exact ⟨by rw [HF.out]; rfl, HB.out.alloc HB.out.size _⟩
      · have h1 : ([108, 116] == s.toList) = false := by rw [Lib.toList_data, beq_eq_false_iff_ne]; exact fun e => h e.symm
        have hg : nameL s.data.toList = nameFrom 2 s.data.toList := by rw [HG.out]; show nameIn (([108, 116], [60]) :: nameT.drop 2) s.data.toList = _; unfold nameIn; rw [if_neg h]; rfl
        have HF := Aside0.mk hg
        clear hg h HG
        go_wp2
        go_roundw
        case rel => exact ⟨2, by decide, rfl, HB.out.alloc HB.out.size _, HF.out⟩
        case measure => simp [RowKit.intOf]
    · have hi' : (Instr.index 239 (.agg nameA) (.int .i64 2)).run Tryz.prog wr = .ok (.agg #[.string ⟨#[103, 116]⟩, .string ⟨#[62]⟩]) wr := index_arr wr nameA 2 (by decide)
      unfold nameA at hi'
      by_cases h : s.data.toList = [103, 116]
      · have h1 : ([103, 116] == s.toList) = true := by rw [Lib.toList_data, h]; rfl
        have hf : nameL s.data.toList = some [62] := by rw [HG.out, h]; rfl
        have HF := Aside0.mk hf
        clear hf h HG
        go_wp2
        go_ret2
        exact ⟨by rw [HF.out]; rfl, HB.out.alloc HB.out.size _⟩
      · have h1 : ([103, 116] == s.toList) = false := by rw [Lib.toList_data, beq_eq_false_iff_ne]; exact fun e => h e.symm
        have hg : nameL s.data.toList = nameFrom 3 s.data.toList := by rw [HG.out]; show nameIn (([103, 116], [62]) :: nameT.drop 3) s.data.toList = _; unfold nameIn; rw [if_neg h]; rfl
        have HF := Aside0.mk hg
        clear hg h HG
        go_wp2
        go_roundw
        case rel => exact ⟨3, by decide, rfl, HB.out.alloc HB.out.size _, HF.out⟩
        case measure => simp [RowKit.intOf]
    · have hi' : (Instr.index 239 (.agg nameA) (.int .i64 3)).run Tryz.prog wr = .ok (.agg #[.string ⟨#[113, 117, 111, 116]⟩, .string ⟨#[34]⟩]) wr := index_arr wr nameA 3 (by decide)
      unfold nameA at hi'
      by_cases h : s.data.toList = [113, 117, 111, 116]
      · have h1 : ([113, 117, 111, 116] == s.toList) = true := by rw [Lib.toList_data, h]; rfl
        have hf : nameL s.data.toList = some [34] := by rw [HG.out, h]; rfl
        have HF := Aside0.mk hf
        clear hf h HG
        go_wp2
        go_ret2
        exact ⟨by rw [HF.out]; rfl, HB.out.alloc HB.out.size _⟩
      · have h1 : ([113, 117, 111, 116] == s.toList) = false := by rw [Lib.toList_data, beq_eq_false_iff_ne]; exact fun e => h e.symm
        have hg : nameL s.data.toList = nameFrom 4 s.data.toList := by rw [HG.out]; show nameIn (([113, 117, 111, 116], [34]) :: nameT.drop 4) s.data.toList = _; unfold nameIn; rw [if_neg h]; rfl
        have HF := Aside0.mk hg
        clear hg h HG
        go_wp2
        go_roundw
        case rel => exact ⟨4, by decide, rfl, HB.out.alloc HB.out.size _, HF.out⟩
        case measure => simp [RowKit.intOf]
    · have hi' : (Instr.index 239 (.agg nameA) (.int .i64 4)).run Tryz.prog wr = .ok (.agg #[.string ⟨#[97, 112, 111, 115]⟩, .string ⟨#[39]⟩]) wr := index_arr wr nameA 4 (by decide)
      unfold nameA at hi'
      by_cases h : s.data.toList = [97, 112, 111, 115]
      · have h1 : ([97, 112, 111, 115] == s.toList) = true := by rw [Lib.toList_data, h]; rfl
        have hf : nameL s.data.toList = some [39] := by rw [HG.out, h]; rfl
        have HF := Aside0.mk hf
        clear hf h HG
        go_wp2
        go_ret2
        exact ⟨by rw [HF.out]; rfl, HB.out.alloc HB.out.size _⟩
      · have h1 : ([97, 112, 111, 115] == s.toList) = false := by rw [Lib.toList_data, beq_eq_false_iff_ne]; exact fun e => h e.symm
        have hg : nameL s.data.toList = nameFrom 5 s.data.toList := by rw [HG.out]; show nameIn (([97, 112, 111, 115], [39]) :: nameT.drop 5) s.data.toList = _; unfold nameIn; rw [if_neg h]; rfl
        have HF := Aside0.mk hg
        clear hg h HG
        go_wp2
        go_roundw
        case rel => exact ⟨5, by decide, rfl, HB.out.alloc HB.out.size _, HF.out⟩
        case measure => simp [RowKit.intOf]
    · have hi' : (Instr.index 239 (.agg nameA) (.int .i64 5)).run Tryz.prog wr = .ok (.agg #[.string ⟨#[110, 98, 115, 112]⟩, .string ⟨#[194, 160]⟩]) wr := index_arr wr nameA 5 (by decide)
      unfold nameA at hi'
      by_cases h : s.data.toList = [110, 98, 115, 112]
      · have h1 : ([110, 98, 115, 112] == s.toList) = true := by rw [Lib.toList_data, h]; rfl
        have hf : nameL s.data.toList = some [194, 160] := by rw [HG.out, h]; rfl
        have HF := Aside0.mk hf
        clear hf h HG
        go_wp2
        go_ret2
        exact ⟨by rw [HF.out]; rfl, HB.out.alloc HB.out.size _⟩
      · have h1 : ([110, 98, 115, 112] == s.toList) = false := by rw [Lib.toList_data, beq_eq_false_iff_ne]; exact fun e => h e.symm
        have hg : nameL s.data.toList = nameFrom 6 s.data.toList := by rw [HG.out]; show nameIn (([110, 98, 115, 112], [194, 160]) :: nameT.drop 6) s.data.toList = _; unfold nameIn; rw [if_neg h]; rfl
        have HF := Aside0.mk hg
        clear hg h HG
        go_wp2
        go_roundw
        case rel => exact ⟨6, by decide, rfl, HB.out.alloc HB.out.size _, HF.out⟩
        case measure => simp [RowKit.intOf]
    · have hi' : (Instr.index 239 (.agg nameA) (.int .i64 6)).run Tryz.prog wr = .ok (.agg #[.string ⟨#[99, 111, 112, 121]⟩, .string ⟨#[194, 169]⟩]) wr := index_arr wr nameA 6 (by decide)
      unfold nameA at hi'
      by_cases h : s.data.toList = [99, 111, 112, 121]
      · have h1 : ([99, 111, 112, 121] == s.toList) = true := by rw [Lib.toList_data, h]; rfl
        have hf : nameL s.data.toList = some [194, 169] := by rw [HG.out, h]; rfl
        have HF := Aside0.mk hf
        clear hf h HG
        go_wp2
        go_ret2
        exact ⟨by rw [HF.out]; rfl, HB.out.alloc HB.out.size _⟩
      · have h1 : ([99, 111, 112, 121] == s.toList) = false := by rw [Lib.toList_data, beq_eq_false_iff_ne]; exact fun e => h e.symm
        have hg : nameL s.data.toList = nameFrom 7 s.data.toList := by rw [HG.out]; show nameIn (([99, 111, 112, 121], [194, 169]) :: nameT.drop 7) s.data.toList = _; unfold nameIn; rw [if_neg h]; rfl
        have HF := Aside0.mk hg
        clear hg h HG
        go_wp2
        go_roundw
        case rel => exact ⟨7, by decide, rfl, HB.out.alloc HB.out.size _, HF.out⟩
        case measure => simp [RowKit.intOf]
    · have hf : nameL s.data.toList = none := by rw [HG.out]; rfl
      have HF := Aside0.mk hf
      clear hf HG
      go_wp2
      go_ret2
      exact ⟨by rw [HF.out]; rfl, HB.out⟩
    · omega
end Go.Proofs.YtfmcdlbbbmeolaaGreatDoor.Refs
end
section
set_option linter.unusedVariables false
namespace Go.Proofs.YtfmcdlbbbmeolaaGreatDoor.Bld
open Go.Shelf Go.RowKit
theorem size72 : (Tryz.prog.info? 108).map (·.size) = some 2 := by kernel_rfl
theorem lies72 : liesAt Tryz.prog Tryz.prog.depth 108 (2 / Tryz.prog.cellsOf 108) 0 108 1 = true := by kernel_rfl
theorem infoByte : (Tryz.prog.info? 5).map (fun i => (i.zero, i.size, i.bytes)) = some (some (.int .u8 0), 1, 1) := by kernel_rfl
set_option maxHeartbeats 1000000 in
set_option maxRecDepth 100000 in
theorem copyCheck_used (b : Nat) (w : World) (h0 : w.cell? ⟨b, 0, none⟩ = some (.pointer (some ⟨b, 0, none⟩))) :
    Calls Tryz.prog 128 #[.pointer (some ⟨b, 0, none⟩)] w fun e w' => e = .returned (.tuple #[]) ∧ w' = w := by
  obtain ⟨j, hj, _⟩ := Option.map_eq_some_iff.1 size72
  go_enter Tryz.func128, Tryz.ntmps128
  go_wp2
  rw [Lib.run_neq_ptr_same w _ Tryz.underlying106 hj]
  go_wp2
  go_end0
  exact ⟨rfl, rfl⟩
set_option maxHeartbeats 1000000 in
set_option maxRecDepth 100000 in
theorem copyCheck_fresh (b : Nat) (w : World) (h0 : w.cell? ⟨b, 0, none⟩ = some (.pointer none)) (hsh : w.shape? b = some (108, 2)) (hfz : w.frozen? ⟨b, 0, none⟩ = false) :
    Calls Tryz.prog 128 #[.pointer (some ⟨b, 0, none⟩)] w fun e w' => e = .returned (.tuple #[]) ∧ w' = w.setCell ⟨b, 0, none⟩ (.pointer (some ⟨b, 0, none⟩)) := by
  obtain ⟨j, hj, hjs⟩ := Option.map_eq_some_iff.1 size72
  go_enter Tryz.func128, Tryz.ntmps128
  go_wp2
  rw [Lib.run_to_unsafe w ⟨b, 0, none⟩ Tryz.underlying106 Tryz.underlying179 hj (by rw [hjs]; decide) hsh (Nat.zero_lt_succ 1)]
  simp only [Result.andThen]
  rw [Oper.upon_value]
  go_wp2
  rw [run_callFunc_extern Tryz.func179 (by kernel_rfl) (by kernel_rfl) (by kernel_rfl) (e := Extern.AbiNoEscape.same) (by kernel_rfl)]
  rw [Lib.run_noEscape]
  simp only [Result.andThen]
  rw [Oper.upon_value]
  go_wp2
  rw [Lib.run_from_unsafe w ⟨b, 0, none⟩ Tryz.underlying179 Tryz.underlying106 hj hsh lies72]
  simp only [Result.andThen]
  rw [Oper.upon_value]
  go_wp2
  go_end0
  exact ⟨rfl, rfl⟩
theorem copyCheck (B b : Nat) (bs : List Value) (w : World) (h : Lib.IsBuilderF 108 5 B b bs w) :
    Calls Tryz.prog 128 #[.pointer (some ⟨b, 0, none⟩)] w fun e w' => e = .returned (.tuple #[]) ∧ (Lib.BuilderAtF 108 5 B b (.pointer (some ⟨b, 0, none⟩)) bs w' ∧ Below B w w' ∧ Lib.OthersKept 5 (some b) w w') := by
  rcases h with h | h
  · refine (copyCheck_fresh b w h.cell0 h.shape h.frozen0).mono ?_
    rintro e w' ⟨rfl, rfl⟩
    exact ⟨rfl, h.used _, (Below.refl B w).setCell (p := ⟨b, 0, none⟩) h.1 _, (Lib.OthersKept.refl _ _ w).setCell ⟨b, 0, none⟩ rfl _⟩
  · refine (copyCheck_used b w h.cell0).mono ?_
    rintro e w' ⟨rfl, rfl⟩
    exact ⟨rfl, h, Below.refl B _, Lib.OthersKept.refl _ _ _⟩
set_option maxHeartbeats 2000000 in
set_option maxRecDepth 100000 in
theorem writeString (B b : Nat) (bs : List Value) (s : ByteArray) (w : World) (h : Lib.IsBuilderF 108 5 B b bs w) (hlen : bs.length + s.size ≤ 140737488355328) (hBw : B ≤ w.heap.size) :
    Calls Tryz.prog 66 #[.pointer (some ⟨b, 0, none⟩), .string s] w fun e w' => e = .returned (.tuple #[.int .i64 s.size, .nilIface]) ∧ (Lib.BuilderAtF 108 5 B b (.pointer (some ⟨b, 0, none⟩)) (bs ++ Lib.strCells s) w' ∧ Below B w w' ∧ Lib.OthersKept 5 (some b) w w') := by
  obtain ⟨i0, hi, hz0, hz1, hz2⟩ := info_parts infoByte
  go_enter Tryz.func66, Tryz.ntmps66
  go_wp2_with (go_at_call 128; refine (copyCheck B b bs _ h).mono ?_)
  rintro e w1 ⟨rfl, h1, hb1, hk1⟩
  obtain ⟨hB, v, hbk, hown, hne⟩ := h1
  have c0 : w1.cell? ⟨b, 0, none⟩ = some (.pointer (some ⟨b, 0, none⟩)) := by rw [Lib.cell_of_heap hbk]; rfl
  have c1 : w1.cell? ⟨b, 1, none⟩ = some v := by rw [Lib.cell_of_heap hbk]; rfl
  go_wp2_with (at_builtin; refine Lib.wpList_append_own_stringF _ rfl _ _ 37 9 rfl B 5 i0 Tryz.underlying37 Tryz.underlying9 hi hz0 hz1 hz2 _ _ _ rfl hown s rfl ?c3 ?c4 ?c5 ?_)
  case c3 => unfold maxLen; omega
  case c4 => omega
  case c5 => have := hb1.size; omega
  intro v' w2 hown' hgrow _
  have hlt : b < w1.heap.size := by
    rcases Nat.lt_or_ge b w1.heap.size with h' | h'
    · exact h'
    · simp [Array.getElem?_eq_none h'] at hbk
  have hb2 : w2.heap[b]? = some (.cells #[.pointer (some ⟨b, 0, none⟩), v] 108 (0, 0)) := by
    rw [hgrow.block b hlt (fun e => hne e.symm)]
    exact hbk
  have d0 : w2.cell? ⟨b, 0, none⟩ = some (.pointer (some ⟨b, 0, none⟩)) := by rw [Lib.cell_of_heap hb2]; rfl
  have d1 : w2.cell? ⟨b, 1, none⟩ = some v := by rw [Lib.cell_of_heap hb2]; rfl
  have f1 : w2.frozen? ⟨b, 1, none⟩ = false := Lib.frozen_of_heap hb2 1
  obtain ⟨ao, n', cap, rfl⟩ : ∃ ao n' cap, v' = .slice ao n' cap := by
    rcases hown'.2 with ⟨hv, _⟩ | ⟨g, cap, cur, fz, hv, _⟩
    · exact ⟨_, _, _, hv⟩
    · exact ⟨_, _, _, hv⟩
  go_wp2
  go_ret2
  refine ⟨rfl, ?_, ?_, (hk1.grown hgrow (Lib.ownsRowF_kind hown)).setCell ⟨b, 1, none⟩ rfl _⟩
  · exact Lib.BuilderAtF.put (T := 108) (e := 5) hB hb2 (bs' := bs ++ Lib.strCells s) (by simpa [Lib.strCells_length] using hown') (by decide)
  · exact (hb1.grown hgrow (by have := hb1.size; omega) (fun k hk => (hown.lt k hk).1)).setCell (p := ⟨b, 1, none⟩) hB _
end Go.Proofs.YtfmcdlbbbmeolaaGreatDoor.Bld
end
section
namespace Go.Proofs.YtfmcdlbbbmeolaaGreatDoor.Ext
open Go.RowKit Go.Lib Go.Proofs.YtfmcdlbbbmeolaaGreatDoorW.PrintWords Go.Proofs.YtfmcdlbbbmeolaaGreatDoorW.PrintLast Go.Proofs.YtfmcdlbbbmeolaaGreatDoorW.PrintMore Go.Proofs.YtfmcdlbbbmeolaaGreatDoor.Utf Go.Proofs.YtfmcdlbbbmeolaaGreatDoor.Bld
def Tabs (w : World) : Prop := Lib.Utf8Tabs 2 3 w
theorem tabs_below {w w' : World} (h : Tabs w) (hb : Below w.heap.size w w') : Tabs w' := Utf8Tabs_below h hb
def strLen : Value → Nat
  | .string s => s.size
  | _ => 0
theorem head_data (t : ByteArray) (i : Nat) : (t.extract 0 i).data.toList = t.data.toList.take i := by
  rw [Lib.extract_data]; simp
theorem bytes_str (l : List UInt8) (t : ByteArray) : Lib.byteCells l ++ Lib.strCells t = Lib.byteCells (l ++ t.data.toList) := by
  rw [Lib.strCells_eq, ← Lib.byteCells_append]
theorem atF_step {T e : TypeId} {B b : Nat} {p : Value} {bs : List Value} {w w' : World} (h : Lib.BuilderAtF T e B b p bs w) (hb : Below w.heap.size w w') : Lib.BuilderAtF T e B b p bs w' := by
  have hlt := h.lt
  obtain ⟨hB, v, hbk, hown, hne⟩ := h
  refine ⟨hB, v, (hb.block b hlt).trans hbk, hown.kept (grown_of_below hb none) ?_, hne⟩
  cases v.ownBlock <;> simp
theorem isF_step {T e : TypeId} {B b : Nat} {bs : List Value} {w w' : World} (h : Lib.IsBuilderF T e B b bs w) (hb : Below w.heap.size w w') : Lib.IsBuilderF T e B b bs w' :=
  h.elim (fun h => .inl (atF_step h hb)) (fun h => .inr (atF_step h hb))
end Go.Proofs.YtfmcdlbbbmeolaaGreatDoor.Ext
end
section
namespace Go.Proofs.YtfmcdlbbbmeolaaGreatDoor.Ext
end Go.Proofs.YtfmcdlbbbmeolaaGreatDoor.Ext
end
section
set_option linter.unusedVariables false
namespace Go.Proofs.YtfmcdlbbbmeolaaGreatDoor.Bld
open Go.Shelf Go.RowKit
set_option maxHeartbeats 2000000 in
set_option maxRecDepth 100000 in
theorem writeByte (B b : Nat) (bs : List Value) (c : Int) (w : World) (h : Lib.IsBuilderF 108 5 B b bs w) (hlen : bs.length + 1 ≤ 140737488355328) (hBw : B ≤ w.heap.size) :
    Calls Tryz.prog 207 #[.pointer (some ⟨b, 0, none⟩), .int .u8 c] w fun e w' => e = .returned .nilIface ∧ (Lib.BuilderAtF 108 5 B b (.pointer (some ⟨b, 0, none⟩)) (bs ++ [.int .u8 c]) w' ∧ Below B w w' ∧ Lib.OthersKept 5 (some b) w w') := by
  obtain ⟨i0, hi, hz0, hz1, hz2⟩ := info_parts infoByte
  go_enter Tryz.func207, Tryz.ntmps207
  go_wp2_with (go_at_call 128; refine (copyCheck B b bs _ h).mono ?_)
  rintro e w1 ⟨rfl, h1, hb1, hk1⟩
  obtain ⟨hB, v, hbk, hown, hne⟩ := h1
  have c0 : w1.cell? ⟨b, 0, none⟩ = some (.pointer (some ⟨b, 0, none⟩)) := by rw [Lib.cell_of_heap hbk]; rfl
  have c1 : w1.cell? ⟨b, 1, none⟩ = some v := by rw [Lib.cell_of_heap hbk]; rfl
  go_wp2_with (at_builtin; refine wpList_append_ownF _ rfl _ _ 37 rfl B 5 i0 (.int .u8 0) 1 1 Tryz.underlying37 hi hz0 hz1 hz2 rfl (by decide) _ _ _ rfl (hown.alloc _) ⟨w1.heap.size, 0, none⟩ 1 1 [.int .u8 c] rfl rfl ?c1 ?c2 ?c3 ?c4 ?c5 ?_)
  case c1 =>
    intro j u hj
    match j, hj with
    | 0, hj => simp at hj; subst hj; simp [Addr.add]
  case c2 => intro u hu; simp at hu; subst hu; rfl
  case c3 => unfold maxLen; omega
  case c4 => omega
  case c5 => have := hb1.size; simp; omega
  intro v' w2 hown' hgrow _
  have hlt : b < w1.heap.size := by
    rcases Nat.lt_or_ge b w1.heap.size with h' | h'
    · exact h'
    · simp [Array.getElem?_eq_none h'] at hbk
  have hb2 : w2.heap[b]? = some (.cells #[.pointer (some ⟨b, 0, none⟩), v] 108 (0, 0)) := by
    rw [hgrow.block b (by simp; omega) (fun e => hne e.symm), Lib.alloc_old w1 _ b hlt]
    exact hbk
  have d0 : w2.cell? ⟨b, 0, none⟩ = some (.pointer (some ⟨b, 0, none⟩)) := by rw [Lib.cell_of_heap hb2]; rfl
  have d1 : w2.cell? ⟨b, 1, none⟩ = some v := by rw [Lib.cell_of_heap hb2]; rfl
  have f1 : w2.frozen? ⟨b, 1, none⟩ = false := Lib.frozen_of_heap hb2 1
  obtain ⟨g, cap, rfl⟩ : ∃ g cap, v' = .slice (some ⟨g, 0, none⟩) (bs.length + 1) cap := by
    rcases hown'.2 with ⟨_, h0⟩ | ⟨g, cap, cur, fz, hv, _⟩
    · omega
    · exact ⟨g, cap, hv⟩
  go_wp2
  go_ret
  refine ⟨rfl, ?_, ?_, ((hk1.alloc _).grown hgrow (Lib.ownsRowF_kind (hown.alloc _))).setCell ⟨b, 1, none⟩ rfl _⟩
  · exact Lib.BuilderAtF.put (T := 108) (e := 5) hB hb2 (bs' := bs ++ [.int .u8 c]) (by simpa using hown') (by decide)
  · exact ((hb1.alloc (by have := hb1.size; omega) _).grown hgrow (by have := hb1.size; simp; omega) (fun k hk => (hown.lt k hk).1)).setCell (p := ⟨b, 1, none⟩) hB _
end Go.Proofs.YtfmcdlbbbmeolaaGreatDoor.Bld
end
section
namespace Go.Proofs.YtfmcdlbbbmeolaaGreatDoor.Refs
open Go.RowKit Go.Lib Go.Proofs.YtfmcdlbbbmeolaaGreatDoorW.PrintWords Go.Proofs.YtfmcdlbbbmeolaaGreatDoorW.PrintLast Go.Proofs.YtfmcdlbbbmeolaaGreatDoorW.PrintMore Go.Proofs.YtfmcdlbbbmeolaaGreatDoor.Utf Go.Proofs.YtfmcdlbbbmeolaaGreatDoor.Bld Go.Proofs.YtfmcdlbbbmeolaaGreatDoor.Ext
set_option maxRecDepth 100000
theorem drop_data (t : ByteArray) (i : Nat) : (t.extract i t.size).data.toList = t.data.toList.drop i := Lib.extract_to_end t i
theorem prefix_le {l p : List UInt8} (h : hasPrefix l p = true) : p.length ≤ l.length := (List.isPrefixOf_iff_prefix.1 h).length_le
theorem tuple_parts (o : Option (List UInt8)) : ∃ (x : ByteArray) (b : Bool), optV o = .tuple #[.string x, .bool b] := by
  cases o with
  | none => exact ⟨_, _, rfl⟩
  | some x => exact ⟨_, _, rfl⟩
set_option maxHeartbeats 1600000 in
theorem meant_calls (s : ByteArray) (w : World) :
    Calls Tryz.prog 206 #[.string s] w fun e w' => e = .returned (optV (meantL s.data.toList)) ∧ Below w.heap.size w w' := by
  have p1 := Tryz.strings_HasPrefix s ⟨#[35, 120]⟩ w
  have p2 := Tryz.strings_HasPrefix s ⟨#[35, 88]⟩ w
  have p3 := Tryz.strings_HasPrefix s ⟨#[35]⟩ w
  have hl := len_size s
  by_cases h : hasPrefix s.data.toList [35, 120] = true ∨ hasPrefix s.data.toList [35, 88] = true
  · have hsz : 2 ≤ s.size := by
      rw [← hl]; rcases h with h | h
      · exact prefix_le h
      · exact prefix_le h
    have hf : meantL s.data.toList = numL (s.extract 2 s.size).data.toList 16 6 := by unfold meantL; rw [if_pos h, drop_data]
    have hn := numbered_calls (s.extract 2 s.size) 16 6 w (by decide) (by decide)
    obtain ⟨x, b, hx⟩ := tuple_parts (numL (s.extract 2 s.size).data.toList 16 6)
    rw [← hf] at hn hx
    rw [hx] at hn
    have HN := Aside0.mk hn
    have HX := Aside0.mk hx
    have g2 : (2 : Int) ≤ (s.size : Int) := by omega
    by_cases h1 : hasPrefix s.data.toList [35, 120] = true
    · have p1' : Calls Tryz.prog 136 #[.string s, .string ⟨#[35, 120]⟩] w fun e w' => e = .returned (.bool true) ∧ w' = w := by
        have := p1; rw [show (⟨#[35, 120]⟩ : ByteArray).data.toList = [35, 120] from rfl, h1] at this; exact this
      have P1 := Aside0.mk p1'
      clear p1 p2 p3 p1' hf hn hx h h1 hl
      go_enter Tryz.func206, Tryz.ntmps206
      go_wp2_with (first | (go_at_call 136; refine P1.out.mono ?_; rintro e w1 ⟨rfl, rfl⟩) | (go_at_call 231; refine HN.out.mono ?_; rintro e w1 ⟨rfl, hb⟩))
      go_ret2
      exact ⟨by rw [HX.out]; rfl, hb⟩
    · have h2 := h.resolve_left h1
      have p1' : Calls Tryz.prog 136 #[.string s, .string ⟨#[35, 120]⟩] w fun e w' => e = .returned (.bool false) ∧ w' = w := by
        have := p1; rw [show (⟨#[35, 120]⟩ : ByteArray).data.toList = [35, 120] from rfl, show hasPrefix s.data.toList [35, 120] = false from by simpa using h1] at this; exact this
      have p2' : Calls Tryz.prog 136 #[.string s, .string ⟨#[35, 88]⟩] w fun e w' => e = .returned (.bool true) ∧ w' = w := by
        have := p2; rw [show (⟨#[35, 88]⟩ : ByteArray).data.toList = [35, 88] from rfl, h2] at this; exact this
      have P1 := Aside0.mk p1'
      have P2 := Aside0.mk p2'
      clear p1 p2 p3 p1' p2' hf hn hx h h1 h2 hl
      go_enter Tryz.func206, Tryz.ntmps206
      go_wp2_with (first | (go_at_call 136; refine P1.out.mono ?_; rintro e w1 ⟨rfl, rfl⟩) | (go_at_call 136; refine P2.out.mono ?_; rintro e w1 ⟨rfl, rfl⟩) | (go_at_call 231; refine HN.out.mono ?_; rintro e w1 ⟨rfl, hb⟩))
      go_ret2
      exact ⟨by rw [HX.out]; rfl, hb⟩
  · have h1 : hasPrefix s.data.toList [35, 120] = false := by cases hh : hasPrefix s.data.toList [35, 120] with | false => rfl | true => exact absurd (.inl hh) h
    have h2 : hasPrefix s.data.toList [35, 88] = false := by cases hh : hasPrefix s.data.toList [35, 88] with | false => rfl | true => exact absurd (.inr hh) h
    have p1' : Calls Tryz.prog 136 #[.string s, .string ⟨#[35, 120]⟩] w fun e w' => e = .returned (.bool false) ∧ w' = w := by
      have := p1; rw [show (⟨#[35, 120]⟩ : ByteArray).data.toList = [35, 120] from rfl, h1] at this; exact this
    have p2' : Calls Tryz.prog 136 #[.string s, .string ⟨#[35, 88]⟩] w fun e w' => e = .returned (.bool false) ∧ w' = w := by
      have := p2; rw [show (⟨#[35, 88]⟩ : ByteArray).data.toList = [35, 88] from rfl, h2] at this; exact this
    have P1 := Aside0.mk p1'
    have P2 := Aside0.mk p2'
    cases h3 : hasPrefix s.data.toList [35] with
    | true =>
      have p3' : Calls Tryz.prog 136 #[.string s, .string ⟨#[35]⟩] w fun e w' => e = .returned (.bool true) ∧ w' = w := by
        have := p3; rw [show (⟨#[35]⟩ : ByteArray).data.toList = [35] from rfl, h3] at this; exact this
      have P3 := Aside0.mk p3'
      have hsz : 1 ≤ s.size := by rw [← hl]; exact prefix_le h3
      have hf : meantL s.data.toList = numL (s.extract 1 s.size).data.toList 10 7 := by unfold meantL; rw [if_neg h, if_pos h3, drop_data]
      have hn := numbered_calls (s.extract 1 s.size) 10 7 w (by decide) (by decide)
      obtain ⟨x, b, hx⟩ := tuple_parts (numL (s.extract 1 s.size).data.toList 10 7)
      rw [← hf] at hn hx
      rw [hx] at hn
      have HN := Aside0.mk hn
      have HX := Aside0.mk hx
      have g2 : (1 : Int) ≤ (s.size : Int) := by omega
      clear p1 p2 p3 p1' p2' p3' hf hn hx h h1 h2 h3 hl
      go_enter Tryz.func206, Tryz.ntmps206
      go_wp2_with (first | (go_at_call 136; refine P1.out.mono ?_; rintro e w1 ⟨rfl, rfl⟩) | (go_at_call 136; refine P2.out.mono ?_; rintro e w1 ⟨rfl, rfl⟩) | (go_at_call 136; refine P3.out.mono ?_; rintro e w1 ⟨rfl, rfl⟩) | (go_at_call 231; refine HN.out.mono ?_; rintro e w1 ⟨rfl, hb⟩))
      go_ret2
      exact ⟨by rw [HX.out]; rfl, hb⟩
    | false =>
      have p3' : Calls Tryz.prog 136 #[.string s, .string ⟨#[35]⟩] w fun e w' => e = .returned (.bool false) ∧ w' = w := by
        have := p3; rw [show (⟨#[35]⟩ : ByteArray).data.toList = [35] from rfl, h3] at this; exact this
      have P3 := Aside0.mk p3'
      have hf : meantL s.data.toList = nameL s.data.toList := by unfold meantL; rw [if_neg h, if_neg (by rw [h3]; decide)]
      have hn := named_calls s w
      obtain ⟨x, b, hx⟩ := tuple_parts (nameL s.data.toList)
      rw [← hf] at hn hx
      rw [hx] at hn
      have HN := Aside0.mk hn
      have HX := Aside0.mk hx
      clear p1 p2 p3 p1' p2' p3' hf hn hx h h1 h2 h3 hl
      go_enter Tryz.func206, Tryz.ntmps206
      go_wp2_with (first | (go_at_call 136; refine P1.out.mono ?_; rintro e w1 ⟨rfl, rfl⟩) | (go_at_call 136; refine P2.out.mono ?_; rintro e w1 ⟨rfl, rfl⟩) | (go_at_call 136; refine P3.out.mono ?_; rintro e w1 ⟨rfl, rfl⟩) | (go_at_call 232; refine HN.out.mono ?_; rintro e w1 ⟨rfl, hb⟩))
      go_ret2
      exact ⟨by rw [HX.out]; rfl, hb⟩
end Go.Proofs.YtfmcdlbbbmeolaaGreatDoor.Refs
end
