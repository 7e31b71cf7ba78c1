/- Words, plain laws and walks behind the law SampleEnds, part 2. No condition. -/
import Derived.Shelf.Strings.Trim
import Derived.Shelf.Small.Utf8
import Derived.Shelf.Small.Bits
import Derived.Shelf.Small.Strs
import Derived.Shelf.Small.Wraps
import Derived.Shelf.Strconv.Itoa0
import Derived.Shelf.Strings.Search1
import Derived.Shelf.Strings.Runes
import Derived.Shelf.Strings.AsciiSet
import Derived.Shelf.Unicode.DecodeSlow
import Derived.Shelf.Slices.Turned
import Derived.Ground.Names2Prog
import Derived.Shelf.Slices.Clone
import Derived.Test.YtioekjkfhbopkaaDoorProg
import Derived.Test.YtioekjkfhbopkaaDoorFlatSampleEndsa
import Derived.Lib.BitFns
import Derived.Lib.OwnBridge
import Derived.Lib.AppendIntMem
import Derived.Shelf.Strings.SlTrimAscii
import Derived.RangeFuncBox
import Derived.RangeFuncLeaves
import Derived.RangeFuncNested
import Derived.Shelf.Abstract
import Derived.Shelf.RegionOpen
import Derived.WalkKit
import Derived.OwnWalkIn
import Derived.TacticsInMore
import Derived.LoopNIn
import Derived.LoopIn

/-
  DERIVED: THE SHELF's CONTRACTS AT THIS DUMP, IN PLAIN WORDS (tools/lay-plain.mjs out of 'TrydpShelf.lean', which tools/lay-shelf.mjs wrote): THE SAME DECLARATIONS UNDER THE SAME NAMES: 'import', 'namespace', 'open', 'def', 'theorem' AND NOTHING ELSE: no command of the shelf's: FOR A HAND-IN. Each laying: the table of numbers ('.._ren') and one theorem, a field a fact of the dump's own or the kernel's comparison; each contract: ONE APPLICATION.
-/
namespace Go.Proofs
open Go.Shelf
def Tryd.lays231_ren : Go.Shelf.Ren := ⟨fun | 231 => 56 | n => n, fun | 9 => 9 | 5 => 5 | 3 => 3 | 4 => 4 | n => n, fun | n => n⟩
theorem Tryd.lays231 : Go.Proofs.Lays.n231 Tryd.prog Tryd.lays231_ren := {
  mixed := by kernel_rfl
  f231 := Tryd.func56.trans (congrArg some (by kernel_rfl))
  t3 := Tryd.underlying3
  a3 := Tryd.isAgg3
  z3 := Tryd.sizeOf3
  v3 := Tryd.zeroValue3
  t4 := Tryd.underlying4
  a4 := Tryd.isAgg4
  z4 := Tryd.sizeOf4
  v4 := Tryd.zeroValue4
  t5 := Tryd.underlying5
  a5 := Tryd.isAgg5
  z5 := Tryd.sizeOf5
  v5 := Tryd.zeroValue5
  t9 := Tryd.underlying9
  a9 := Tryd.isAgg9
  z9 := Tryd.sizeOf9
  v9 := Tryd.zeroValue9 }
open Go.RowKit in
/-- strings.trimLeftByte (no doc; what TrimLeft and Trim call at a cutset of one ASCII byte): the leading bytes that are c are cut off. The world is as it was. (LAID: no walk: one application.) -/
theorem Tryd.strings_trimLeftByte (s : ByteArray) (c : UInt8) (w : World) :
    Calls Tryd.prog 56 #[.string s, .int .u8 c.toNat] w fun e w' => e = .returned (.string ⟨(Lib.trimLeftB s.data.toList c).toArray⟩) ∧ w' = w := Any.strings_trimLeftByte Tryd.lays231 s c w
def Tryd.lays232_ren : Go.Shelf.Ren := ⟨fun | 232 => 57 | n => n, fun | 9 => 9 | 5 => 5 | 3 => 3 | 4 => 4 | n => n, fun | n => n⟩
theorem Tryd.lays232 : Go.Proofs.Lays.n232 Tryd.prog Tryd.lays232_ren := {
  mixed := by kernel_rfl
  f232 := Tryd.func57.trans (congrArg some (by kernel_rfl))
  t3 := Tryd.underlying3
  a3 := Tryd.isAgg3
  z3 := Tryd.sizeOf3
  v3 := Tryd.zeroValue3
  t4 := Tryd.underlying4
  a4 := Tryd.isAgg4
  z4 := Tryd.sizeOf4
  v4 := Tryd.zeroValue4
  t5 := Tryd.underlying5
  a5 := Tryd.isAgg5
  z5 := Tryd.sizeOf5
  v5 := Tryd.zeroValue5
  t9 := Tryd.underlying9
  a9 := Tryd.isAgg9
  z9 := Tryd.sizeOf9
  v9 := Tryd.zeroValue9 }
open Go.RowKit in
/-- strings.trimRightByte (no doc; what TrimRight and Trim call at a cutset of one ASCII byte): the trailing bytes that are c are cut off. The world is as it was. ('hs': a string's length is a number that an int holds.) (LAID: no walk: one application.) -/
theorem Tryd.strings_trimRightByte (s : ByteArray) (c : UInt8) (w : World) (hs : s.size ≤ 9223372036854775807) :
    Calls Tryd.prog 57 #[.string s, .int .u8 c.toNat] w fun e w' => e = .returned (.string ⟨(Lib.trimRightB s.data.toList c).toArray⟩) ∧ w' = w := Any.strings_trimRightByte Tryd.lays232 s c w hs
def Tryd.lays160_ren : Go.Shelf.Ren := ⟨fun | 160 => 37 | 232 => 57 | 231 => 56 | 227 => 58 | 234 => 60 | 233 => 59 | 236 => 62 | 235 => 61 | 228 => 77 | 271 => 80 | 151 => 79 | 197 => 78 | 120 => 92 | 152 => 91 | 260 => 90 | 137 => 95 | 119 => 96 | 224 => 97 | 225 => 98 | 217 => 99 | 266 => 100 | n => n, fun | 9 => 9 | 4 => 4 | 3 => 3 | 5 => 5 | 117 => 97 | 116 => 96 | 0 => 0 | 124 => 100 | 21 => 21 | 105 => 114 | 46 => 102 | 119 => 152 | 139 => 155 | 138 => 154 | n => n, fun | 3 => 9 | 4 => 10 | n => n⟩
theorem Tryd.lays160 : Go.Proofs.Lays.n160 Tryd.prog Tryd.lays160_ren := {
  mixed := by kernel_rfl
  f119 := Tryd.func96.trans (congrArg some (by kernel_rfl))
  f120 := Tryd.func92.trans (congrArg some (by kernel_rfl))
  f137 := Tryd.func95.trans (congrArg some (by kernel_rfl))
  f151 := Tryd.func79.trans (congrArg some (by kernel_rfl))
  f152 := Tryd.func91.trans (congrArg some (by kernel_rfl))
  f160 := Tryd.func37.trans (congrArg some (by kernel_rfl))
  f197 := Tryd.func78.trans (congrArg some (by kernel_rfl))
  f217 := Tryd.func99.trans (congrArg some (by kernel_rfl))
  f224 := Tryd.func97.trans (congrArg some (by kernel_rfl))
  f225 := Tryd.func98.trans (congrArg some (by kernel_rfl))
  f227 := Tryd.func58.trans (congrArg some (by kernel_rfl))
  f228 := Tryd.func77.trans (congrArg some (by kernel_rfl))
  f231 := Tryd.func56.trans (congrArg some (by kernel_rfl))
  f232 := Tryd.func57.trans (congrArg some (by kernel_rfl))
  f233 := Tryd.func59.trans (congrArg some (by kernel_rfl))
  f234 := Tryd.func60.trans (congrArg some (by kernel_rfl))
  f235 := Tryd.func61.trans (congrArg some (by kernel_rfl))
  f236 := Tryd.func62.trans (congrArg some (by kernel_rfl))
  f260 := Tryd.func90.trans (congrArg some (by kernel_rfl))
  f266 := Tryd.func100.trans (congrArg some (by kernel_rfl))
  f271 := Tryd.func80.trans (congrArg some (by kernel_rfl))
  t0 := Tryd.underlying0
  a0 := Tryd.isAgg0
  z0 := Tryd.sizeOf0
  v0 := Tryd.zeroValue0
  t3 := Tryd.underlying3
  a3 := Tryd.isAgg3
  z3 := Tryd.sizeOf3
  v3 := Tryd.zeroValue3
  t4 := Tryd.underlying4
  a4 := Tryd.isAgg4
  z4 := Tryd.sizeOf4
  v4 := Tryd.zeroValue4
  t5 := Tryd.underlying5
  a5 := Tryd.isAgg5
  z5 := Tryd.sizeOf5
  v5 := Tryd.zeroValue5
  t9 := Tryd.underlying9
  a9 := Tryd.isAgg9
  z9 := Tryd.sizeOf9
  v9 := Tryd.zeroValue9
  t21 := Tryd.underlying21
  a21 := Tryd.isAgg21
  z21 := Tryd.sizeOf21
  v21 := Tryd.zeroValue21
  t46 := Tryd.underlying102
  a46 := Tryd.isAgg102
  z46 := Tryd.sizeOf102
  v46 := Tryd.zeroValue102
  t105 := Tryd.underlying114
  a105 := Tryd.isAgg114
  z105 := Tryd.sizeOf114
  v105 := Tryd.zeroValue114
  t116 := Tryd.underlying96
  a116 := Tryd.isAgg96
  z116 := Tryd.sizeOf96
  t117 := Tryd.underlying97
  a117 := Tryd.isAgg97
  z117 := Tryd.sizeOf97
  v117 := Tryd.zeroValue97
  t119 := Tryd.underlying152
  a119 := Tryd.isAgg152
  z119 := Tryd.sizeOf152
  t124 := Tryd.underlying100
  a124 := Tryd.isAgg100
  z124 := Tryd.sizeOf100
  v124 := Tryd.zeroValue100
  t138 := Tryd.underlying154
  a138 := Tryd.isAgg154
  z138 := Tryd.sizeOf154
  v138 := Tryd.zeroValue154
  t139 := Tryd.underlying155
  a139 := Tryd.isAgg155
  z139 := Tryd.sizeOf155
  v139 := Tryd.zeroValue155
  g3 := by kernel_rfl
  g4 := by kernel_rfl }
open Go.RowKit in
/-- strings.Trim: "Trim returns a slice of the string s with all leading and trailing Unicode code points contained in cutset removed.": AT A cutset OF ONE ASCII BYTE. THE WORLD BEHIND IT: as it was, or (where s is not empty) with ONE DRAW MORE off the tape: the statement 'return trimLeftByte(trimRightByte(s, c), c)' draws its order of evaluation. (LAID: no walk: one application.) -/
theorem Tryd.strings_Trim_one (s : ByteArray) (c : UInt8) (hc : c.toNat < 128) (w : World) (hs : s.size ≤ 9223372036854775807) :
    Calls Tryd.prog 37 #[.string s, .string ⟨#[c]⟩] w fun e w' => e = .returned (.string ⟨(Lib.trimB s.data.toList c).toArray⟩) ∧ (w' = w ∨ w' = w.drew) := Any.strings_Trim_one Tryd.lays160 s c hc w hs
def Tryd.lays119_ren : Go.Shelf.Ren := ⟨fun | 119 => 96 | n => n, fun | 21 => 21 | 4 => 4 | n => n, fun | n => n⟩
theorem Tryd.lays119 : Go.Proofs.Lays.n119 Tryd.prog Tryd.lays119_ren := {
  mixed := by kernel_rfl
  f119 := Tryd.func96.trans (congrArg some (by kernel_rfl))
  t4 := Tryd.underlying4
  a4 := Tryd.isAgg4
  z4 := Tryd.sizeOf4
  v4 := Tryd.zeroValue4
  t21 := Tryd.underlying21
  a21 := Tryd.isAgg21
  z21 := Tryd.sizeOf21
  v21 := Tryd.zeroValue21 }
/-- utf8.ValidRune: "ValidRune reports whether r can be legally encoded as UTF-8. Code points that are out of range or a surrogate half are illegal.": IT RETURNS 'Lib.validRune r'; the world is as it was. (LAID: no walk: one application.) -/
theorem Tryd.utf8_ValidRune (r : Int) (w : World) :
    Calls Tryd.prog 96 #[.int .i32 r] w fun e w' => e = .returned (.bool (Lib.validRune r)) ∧ w' = w := Any.utf8_ValidRune Tryd.lays119 r w
def Tryd.lays120_ren : Go.Shelf.Ren := ⟨fun | 120 => 92 | n => n, fun | 5 => 5 | 4 => 4 | n => n, fun | n => n⟩
theorem Tryd.lays120 : Go.Proofs.Lays.n120 Tryd.prog Tryd.lays120_ren := {
  mixed := by kernel_rfl
  f120 := Tryd.func92.trans (congrArg some (by kernel_rfl))
  t4 := Tryd.underlying4
  a4 := Tryd.isAgg4
  z4 := Tryd.sizeOf4
  v4 := Tryd.zeroValue4
  t5 := Tryd.underlying5
  a5 := Tryd.isAgg5
  z5 := Tryd.sizeOf5
  v5 := Tryd.zeroValue5 }
/-- utf8.RuneStart: "RuneStart reports whether the byte could be the first byte of an encoded, possibly invalid rune. Second and subsequent bytes always have the top two bits set to 10.": IT RETURNS 'Lib.runeStart b'; the world is as it was. ('h0', 'h1': b is a byte: a caller has it of every byte that it was handed.) (LAID: no walk: one application.) -/
theorem Tryd.utf8_RuneStart (b : Int) (w : World) (h0 : 0 ≤ b) (h1 : b < 256) :
    Calls Tryd.prog 92 #[.int .u8 b] w fun e w' => e = .returned (.bool (Lib.runeStart b)) ∧ w' = w := Any.utf8_RuneStart Tryd.lays120 b w h0 h1
def Tryd.lays128_ren : Go.Shelf.Ren := ⟨fun | 128 => 81 | n => n, fun | 51 => 118 | 3 => 3 | 4 => 4 | 46 => 102 | 5 => 5 | 9 => 9 | n => n, fun | n => n⟩
theorem Tryd.lays128 : Go.Proofs.Lays.n128 Tryd.prog Tryd.lays128_ren := {
  mixed := by kernel_rfl
  f128 := Tryd.func81.trans (congrArg some (by kernel_rfl))
  t3 := Tryd.underlying3
  a3 := Tryd.isAgg3
  z3 := Tryd.sizeOf3
  v3 := Tryd.zeroValue3
  t4 := Tryd.underlying4
  a4 := Tryd.isAgg4
  z4 := Tryd.sizeOf4
  v4 := Tryd.zeroValue4
  t5 := Tryd.underlying5
  a5 := Tryd.isAgg5
  z5 := Tryd.sizeOf5
  v5 := Tryd.zeroValue5
  t9 := Tryd.underlying9
  a9 := Tryd.isAgg9
  z9 := Tryd.sizeOf9
  v9 := Tryd.zeroValue9
  t46 := Tryd.underlying102
  a46 := Tryd.isAgg102
  z46 := Tryd.sizeOf102
  v46 := Tryd.zeroValue102
  t51 := Tryd.underlying118
  a51 := Tryd.isAgg118
  z51 := Tryd.sizeOf118
  v51 := Tryd.zeroValue118 }
/-- bits.Len32: "Len32 returns the minimum number of bits required to represent x; the result is 0 for x == 0.": IT RETURNS 'Lib.bitLen x'; the world is as it was. ('h0', 'h1': x is a uint32.) (LAID: no walk: one application.) -/
theorem Tryd.bits_Len32 (x : Int) (w : World) (h0 : 0 ≤ x) (h1 : x ≤ 4294967295) :
    Calls Tryd.prog 81 #[.int .u32 x] w fun e w' => e = .returned (.int .i64 (Lib.bitLen x.toNat)) ∧ w' = w := Any.bits_Len32 Tryd.lays128 x w h0 h1
def Tryd.lays125_ren : Go.Shelf.Ren := ⟨fun | 125 => 64 | 128 => 81 | 129 => 82 | n => n, fun | 46 => 102 | 3 => 3 | 51 => 118 | 53 => 120 | 4 => 4 | 5 => 5 | 9 => 9 | n => n, fun | n => n⟩
theorem Tryd.lays125 : Go.Proofs.Lays.n125 Tryd.prog Tryd.lays125_ren := {
  mixed := by kernel_rfl
  f125 := Tryd.func64.trans (congrArg some (by kernel_rfl))
  f128 := Tryd.func81.trans (congrArg some (by kernel_rfl))
  f129 := Tryd.func82.trans (congrArg some (by kernel_rfl))
  t3 := Tryd.underlying3
  a3 := Tryd.isAgg3
  z3 := Tryd.sizeOf3
  v3 := Tryd.zeroValue3
  t4 := Tryd.underlying4
  a4 := Tryd.isAgg4
  z4 := Tryd.sizeOf4
  v4 := Tryd.zeroValue4
  t5 := Tryd.underlying5
  a5 := Tryd.isAgg5
  z5 := Tryd.sizeOf5
  v5 := Tryd.zeroValue5
  t9 := Tryd.underlying9
  a9 := Tryd.isAgg9
  z9 := Tryd.sizeOf9
  v9 := Tryd.zeroValue9
  t46 := Tryd.underlying102
  a46 := Tryd.isAgg102
  z46 := Tryd.sizeOf102
  v46 := Tryd.zeroValue102
  t51 := Tryd.underlying118
  a51 := Tryd.isAgg118
  z51 := Tryd.sizeOf118
  v51 := Tryd.zeroValue118
  t53 := Tryd.underlying120
  a53 := Tryd.isAgg120
  z53 := Tryd.sizeOf120
  v53 := Tryd.zeroValue120 }
/-- bits.Len: "Len returns the minimum number of bits required to represent x; the result is 0 for x == 0.": IT RETURNS 'Lib.bitLen x'; the world is as it was. (A uint has 64 bits in the model.) ITS CALLEE bits.Len64 IS MET BY ITS OWN CONTRACT OFF THE SHELF (lay that first). (LAID: no walk: one application.) -/
theorem Tryd.bits_Len (x : Int) (w : World) (h0 : 0 ≤ x) (h1 : x ≤ 18446744073709551615) :
    Calls Tryd.prog 64 #[.int .u64 x] w fun e w' => e = .returned (.int .i64 (Lib.bitLen x.toNat)) ∧ w' = w := Any.bits_Len Tryd.lays125 x w h0 h1
def Tryd.lays137_ren : Go.Shelf.Ren := ⟨fun | 137 => 95 | 217 => 99 | 266 => 100 | n => n, fun | 9 => 9 | 5 => 5 | 3 => 3 | n => n, fun | n => n⟩
theorem Tryd.lays137 : Go.Proofs.Lays.n137 Tryd.prog Tryd.lays137_ren := {
  mixed := by kernel_rfl
  f137 := Tryd.func95.trans (congrArg some (by kernel_rfl))
  f217 := Tryd.func99.trans (congrArg some (by kernel_rfl))
  f266 := Tryd.func100.trans (congrArg some (by kernel_rfl))
  t3 := Tryd.underlying3
  a3 := Tryd.isAgg3
  z3 := Tryd.sizeOf3
  v3 := Tryd.zeroValue3
  t5 := Tryd.underlying5
  a5 := Tryd.isAgg5
  z5 := Tryd.sizeOf5
  v5 := Tryd.zeroValue5
  t9 := Tryd.underlying9
  a9 := Tryd.isAgg9
  z9 := Tryd.sizeOf9
  v9 := Tryd.zeroValue9 }
open Go.RowKit in
/-- strings.IndexByte: "IndexByte returns the index of the first instance of c in s, or -1 if c is not present in s.": IT RETURNS 'Lib.indexByte s c'; the world is as it was. (LAID: no walk: one application.) -/
theorem Tryd.strings_IndexByte (s : ByteArray) (c : Int) (w : World) :
    Calls Tryd.prog 95 #[.string s, .int .u8 c] w fun e w' => e = .returned (.int .i64 (Lib.indexByte s.data.toList c.toNat.toUInt8)) ∧ w' = w := Any.strings_IndexByte Tryd.lays137 s c w
def Tryd.lays215_ren : Go.Shelf.Ren := ⟨fun | 215 => 89 | n => n, fun | 3 => 3 | 4 => 4 | n => n, fun | n => n⟩
theorem Tryd.lays215 : Go.Proofs.Lays.n215 Tryd.prog Tryd.lays215_ren := {
  mixed := by kernel_rfl
  f215 := Tryd.func89.trans (congrArg some (by kernel_rfl))
  t3 := Tryd.underlying3
  a3 := Tryd.isAgg3
  z3 := Tryd.sizeOf3
  v3 := Tryd.zeroValue3
  t4 := Tryd.underlying4
  a4 := Tryd.isAgg4
  z4 := Tryd.sizeOf4
  v4 := Tryd.zeroValue4 }
open Go.RowKit in
/-- cmp.isNaN at int: 'x != x': false. (LAID: no walk: one application.) -/
theorem Tryd.cmp_isNaN_int (x : Int) (w : World) :
    Calls Tryd.prog 89 #[.int .i64 x] w fun e w' => e = .returned (.bool false) ∧ w' = w := Any.cmp_isNaN_int Tryd.lays215 x w
def Tryd.lays129_ren : Go.Shelf.Ren := ⟨fun | 129 => 82 | n => n, fun | 53 => 120 | 3 => 3 | 4 => 4 | 46 => 102 | 5 => 5 | 9 => 9 | n => n, fun | n => n⟩
theorem Tryd.lays129 : Go.Proofs.Lays.n129 Tryd.prog Tryd.lays129_ren := {
  mixed := by kernel_rfl
  f129 := Tryd.func82.trans (congrArg some (by kernel_rfl))
  t3 := Tryd.underlying3
  a3 := Tryd.isAgg3
  z3 := Tryd.sizeOf3
  v3 := Tryd.zeroValue3
  t4 := Tryd.underlying4
  a4 := Tryd.isAgg4
  z4 := Tryd.sizeOf4
  v4 := Tryd.zeroValue4
  t5 := Tryd.underlying5
  a5 := Tryd.isAgg5
  z5 := Tryd.sizeOf5
  v5 := Tryd.zeroValue5
  t9 := Tryd.underlying9
  a9 := Tryd.isAgg9
  z9 := Tryd.sizeOf9
  v9 := Tryd.zeroValue9
  t46 := Tryd.underlying102
  a46 := Tryd.isAgg102
  z46 := Tryd.sizeOf102
  v46 := Tryd.zeroValue102
  t53 := Tryd.underlying120
  a53 := Tryd.isAgg120
  z53 := Tryd.sizeOf120
  v53 := Tryd.zeroValue120 }
/-- bits.Len64: "Len64 returns the minimum number of bits required to represent x; the result is 0 for x == 0.": IT RETURNS 'Lib.bitLen x'; the world is as it was. ('h0', 'h1': x is a uint64.) (LAID: no walk: one application.) -/
theorem Tryd.bits_Len64 (x : Int) (w : World) (h0 : 0 ≤ x) (h1 : x ≤ 18446744073709551615) :
    Calls Tryd.prog 82 #[.int .u64 x] w fun e w' => e = .returned (.int .i64 (Lib.bitLen x.toNat)) ∧ w' = w := Any.bits_Len64 Tryd.lays129 x w h0 h1
def Tryd.lays217_ren : Go.Shelf.Ren := ⟨fun | 217 => 99 | 266 => 100 | n => n, fun | 9 => 9 | 5 => 5 | 3 => 3 | n => n, fun | n => n⟩
theorem Tryd.lays217 : Go.Proofs.Lays.n217 Tryd.prog Tryd.lays217_ren := {
  mixed := by kernel_rfl
  f217 := Tryd.func99.trans (congrArg some (by kernel_rfl))
  f266 := Tryd.func100.trans (congrArg some (by kernel_rfl))
  t3 := Tryd.underlying3
  a3 := Tryd.isAgg3
  z3 := Tryd.sizeOf3
  v3 := Tryd.zeroValue3
  t5 := Tryd.underlying5
  a5 := Tryd.isAgg5
  z5 := Tryd.sizeOf5
  v5 := Tryd.zeroValue5
  t9 := Tryd.underlying9
  a9 := Tryd.isAgg9
  z9 := Tryd.sizeOf9
  v9 := Tryd.zeroValue9 }
open Go.RowKit Go.Lib in
/-- internal/stringslite.IndexByte (what strings.IndexByte calls): IT RETURNS 'Lib.indexByte s c'; the world is as it was. (LAID: no walk: one application.) -/
theorem Tryd.stringslite_IndexByte (s : ByteArray) (c : Int) (w : World) :
    Calls Tryd.prog 99 #[.string s, .int .u8 c] w fun e w' => e = .returned (.int .i64 (Lib.indexByte s.data.toList c.toNat.toUInt8)) ∧ w' = w := Any.stringslite_IndexByte Tryd.lays217 s c w
def Tryd.lays224_ren : Go.Shelf.Ren := ⟨fun | 224 => 97 | n => n, fun | 3 => 3 | n => n, fun | n => n⟩
theorem Tryd.lays224 : Go.Proofs.Lays.n224 Tryd.prog Tryd.lays224_ren := {
  mixed := by kernel_rfl
  f224 := Tryd.func97.trans (congrArg some (by kernel_rfl))
  t3 := Tryd.underlying3
  a3 := Tryd.isAgg3
  z3 := Tryd.sizeOf3
  v3 := Tryd.zeroValue3 }
open Go.RowKit Go.Lib in
/-- internal/bytealg.Cutover: "Cutover reports the number of failures of IndexByte we should tolerate before switching over to Index. n is the number of bytes processed so far.": on amd64: (n + 16) / 8. (LAID: no walk: one application.) -/
theorem Tryd.bytealg_Cutover (n : Int) (h0 : 0 ≤ n) (h1 : n < 4611686018427387904) (w : World) :
    Calls Tryd.prog 97 #[.int .i64 n] w fun e w' => e = .returned (.int .i64 ((n + 16) / 8)) ∧ w' = w := Any.bytealg_Cutover Tryd.lays224 n h0 h1 w
def Tryd.lays152_ren : Go.Shelf.Ren := ⟨fun | 152 => 91 | 137 => 95 | 119 => 96 | 224 => 97 | 225 => 98 | 217 => 99 | 266 => 100 | n => n, fun | 9 => 9 | 21 => 21 | 3 => 3 | 4 => 4 | 5 => 5 | 0 => 0 | 46 => 102 | n => n, fun | n => n⟩
theorem Tryd.lays152 : Go.Proofs.Lays.n152 Tryd.prog Tryd.lays152_ren := {
  mixed := by kernel_rfl
  f119 := Tryd.func96.trans (congrArg some (by kernel_rfl))
  f137 := Tryd.func95.trans (congrArg some (by kernel_rfl))
  f152 := Tryd.func91.trans (congrArg some (by kernel_rfl))
  f217 := Tryd.func99.trans (congrArg some (by kernel_rfl))
  f224 := Tryd.func97.trans (congrArg some (by kernel_rfl))
  f225 := Tryd.func98.trans (congrArg some (by kernel_rfl))
  f266 := Tryd.func100.trans (congrArg some (by kernel_rfl))
  t0 := Tryd.underlying0
  a0 := Tryd.isAgg0
  z0 := Tryd.sizeOf0
  v0 := Tryd.zeroValue0
  t3 := Tryd.underlying3
  a3 := Tryd.isAgg3
  z3 := Tryd.sizeOf3
  v3 := Tryd.zeroValue3
  t4 := Tryd.underlying4
  a4 := Tryd.isAgg4
  z4 := Tryd.sizeOf4
  v4 := Tryd.zeroValue4
  t5 := Tryd.underlying5
  a5 := Tryd.isAgg5
  z5 := Tryd.sizeOf5
  v5 := Tryd.zeroValue5
  t9 := Tryd.underlying9
  a9 := Tryd.isAgg9
  z9 := Tryd.sizeOf9
  v9 := Tryd.zeroValue9
  t21 := Tryd.underlying21
  a21 := Tryd.isAgg21
  z21 := Tryd.sizeOf21
  v21 := Tryd.zeroValue21
  t46 := Tryd.underlying102
  a46 := Tryd.isAgg102
  z46 := Tryd.sizeOf102
  v46 := Tryd.zeroValue102 }
open Go.RowKit Go.Lib in
theorem Tryd.strings_IndexRune_ascii (s : ByteArray) (r : Int) (w : World) (h0 : 0 ≤ r) (h1 : r < 128) :
    Calls Tryd.prog 91 #[.string s, .int .i32 r] w fun e w' => e = .returned (.int .i64 (Lib.indexByte s.data.toList r.toNat.toUInt8)) ∧ w' = w := Any.strings_IndexRune_ascii Tryd.lays152 s r w h0 h1
def Tryd.lays151_ren : Go.Shelf.Ren := ⟨fun | 151 => 79 | 152 => 91 | 137 => 95 | 119 => 96 | 224 => 97 | 225 => 98 | 217 => 99 | 266 => 100 | n => n, fun | 9 => 9 | 21 => 21 | 4 => 4 | 3 => 3 | 5 => 5 | 0 => 0 | 46 => 102 | n => n, fun | n => n⟩
theorem Tryd.lays151 : Go.Proofs.Lays.n151 Tryd.prog Tryd.lays151_ren := {
  mixed := by kernel_rfl
  f119 := Tryd.func96.trans (congrArg some (by kernel_rfl))
  f137 := Tryd.func95.trans (congrArg some (by kernel_rfl))
  f151 := Tryd.func79.trans (congrArg some (by kernel_rfl))
  f152 := Tryd.func91.trans (congrArg some (by kernel_rfl))
  f217 := Tryd.func99.trans (congrArg some (by kernel_rfl))
  f224 := Tryd.func97.trans (congrArg some (by kernel_rfl))
  f225 := Tryd.func98.trans (congrArg some (by kernel_rfl))
  f266 := Tryd.func100.trans (congrArg some (by kernel_rfl))
  t0 := Tryd.underlying0
  a0 := Tryd.isAgg0
  z0 := Tryd.sizeOf0
  v0 := Tryd.zeroValue0
  t3 := Tryd.underlying3
  a3 := Tryd.isAgg3
  z3 := Tryd.sizeOf3
  v3 := Tryd.zeroValue3
  t4 := Tryd.underlying4
  a4 := Tryd.isAgg4
  z4 := Tryd.sizeOf4
  v4 := Tryd.zeroValue4
  t5 := Tryd.underlying5
  a5 := Tryd.isAgg5
  z5 := Tryd.sizeOf5
  v5 := Tryd.zeroValue5
  t9 := Tryd.underlying9
  a9 := Tryd.isAgg9
  z9 := Tryd.sizeOf9
  v9 := Tryd.zeroValue9
  t21 := Tryd.underlying21
  a21 := Tryd.isAgg21
  z21 := Tryd.sizeOf21
  v21 := Tryd.zeroValue21
  t46 := Tryd.underlying102
  a46 := Tryd.isAgg102
  z46 := Tryd.sizeOf102
  v46 := Tryd.zeroValue102 }
open Go.RowKit Go.Lib in
theorem Tryd.strings_ContainsRune_ascii (s : ByteArray) (r : Int) (w : World) (h0 : 0 ≤ r) (h1 : r < 128) :
    Calls Tryd.prog 79 #[.string s, .int .i32 r] w fun e w' => e = .returned (.bool (decide (0 ≤ Lib.indexByte s.data.toList r.toNat.toUInt8))) ∧ w' = w := Any.strings_ContainsRune_ascii Tryd.lays151 s r w h0 h1
def Tryd.lays227_ren : Go.Shelf.Ren := ⟨fun | 227 => 58 | n => n, fun | 9 => 9 | 116 => 96 | 4 => 4 | 0 => 0 | 3 => 3 | 5 => 5 | n => n, fun | n => n⟩
theorem Tryd.lays227 : Go.Proofs.Lays.n227 Tryd.prog Tryd.lays227_ren := {
  mixed := by kernel_rfl
  f227 := Tryd.func58.trans (congrArg some (by kernel_rfl))
  t0 := Tryd.underlying0
  a0 := Tryd.isAgg0
  z0 := Tryd.sizeOf0
  v0 := Tryd.zeroValue0
  t3 := Tryd.underlying3
  a3 := Tryd.isAgg3
  z3 := Tryd.sizeOf3
  v3 := Tryd.zeroValue3
  t4 := Tryd.underlying4
  a4 := Tryd.isAgg4
  z4 := Tryd.sizeOf4
  v4 := Tryd.zeroValue4
  t5 := Tryd.underlying5
  a5 := Tryd.isAgg5
  z5 := Tryd.sizeOf5
  v5 := Tryd.zeroValue5
  t9 := Tryd.underlying9
  a9 := Tryd.isAgg9
  z9 := Tryd.sizeOf9
  v9 := Tryd.zeroValue9
  t116 := Tryd.underlying96
  a116 := Tryd.isAgg96
  z116 := Tryd.sizeOf96 }
open Go.RowKit Go.Lib in
theorem Tryd.strings_makeASCIISet (hv116 : ∀ w, (zeroValue 96).run Tryd.prog w = .ok (.agg (Array.replicate 256 (.bool false))) w) (chars : ByteArray) (w : World) (hs : chars.size < 4294967281) (hascii : ∀ (j : Nat) b, chars.data.toList[j]? = some b → b.toNat < 128) :
    Calls Tryd.prog 58 #[.string chars] w fun e w' => e = .returned (.tuple #[.agg (Lib.setCells chars.data.toList), .bool true]) ∧ w' = w.alloc (.cells (Lib.setCells chars.data.toList) 96) := Any.strings_makeASCIISet Tryd.lays227 hv116 (by kernel_rfl) chars w hs hascii
def Tryd.lays228_ren : Go.Shelf.Ren := ⟨fun | 228 => 77 | n => n, fun | 124 => 100 | 5 => 5 | 4 => 4 | 0 => 0 | 116 => 96 | n => n, fun | n => n⟩
theorem Tryd.lays228 : Go.Proofs.Lays.n228 Tryd.prog Tryd.lays228_ren := {
  mixed := by kernel_rfl
  f228 := Tryd.func77.trans (congrArg some (by kernel_rfl))
  t0 := Tryd.underlying0
  a0 := Tryd.isAgg0
  z0 := Tryd.sizeOf0
  v0 := Tryd.zeroValue0
  t4 := Tryd.underlying4
  a4 := Tryd.isAgg4
  z4 := Tryd.sizeOf4
  v4 := Tryd.zeroValue4
  t5 := Tryd.underlying5
  a5 := Tryd.isAgg5
  z5 := Tryd.sizeOf5
  v5 := Tryd.zeroValue5
  t116 := Tryd.underlying96
  a116 := Tryd.isAgg96
  z116 := Tryd.sizeOf96
  t124 := Tryd.underlying100
  a124 := Tryd.isAgg100
  z124 := Tryd.sizeOf100
  v124 := Tryd.zeroValue100 }
open Go.RowKit Go.Lib in
/-- '(as *asciiSet) contains(c)': 'as[c]': the set lies at block b, whole. (LAID: no walk: one application.) -/
theorem Tryd.asciiSet_contains (b : Nat) (x : UInt8) (v : Bool) (w : World) (hc : w.cell? ⟨b, x.toNat, none⟩ = some (.bool v)) :
    Calls Tryd.prog 77 #[.pointer (some ⟨b, 0, none⟩), .int .u8 x.toNat] w fun e w' => e = .returned (.bool v) ∧ w' = w := Any.asciiSet_contains Tryd.lays228 b x v w hc
def Tryd.lays260_ren : Go.Shelf.Ren := ⟨fun | 260 => 90 | n => n, fun | 9 => 9 | 21 => 21 | 3 => 3 | 4 => 4 | 5 => 5 | 119 => 152 | 0 => 0 | 46 => 102 | 139 => 155 | 138 => 154 | n => n, fun | 3 => 9 | 4 => 10 | n => n⟩
theorem Tryd.lays260 : Go.Proofs.Lays.n260 Tryd.prog Tryd.lays260_ren := {
  mixed := by kernel_rfl
  f260 := Tryd.func90.trans (congrArg some (by kernel_rfl))
  t0 := Tryd.underlying0
  a0 := Tryd.isAgg0
  z0 := Tryd.sizeOf0
  v0 := Tryd.zeroValue0
  t3 := Tryd.underlying3
  a3 := Tryd.isAgg3
  z3 := Tryd.sizeOf3
  v3 := Tryd.zeroValue3
  t4 := Tryd.underlying4
  a4 := Tryd.isAgg4
  z4 := Tryd.sizeOf4
  v4 := Tryd.zeroValue4
  t5 := Tryd.underlying5
  a5 := Tryd.isAgg5
  z5 := Tryd.sizeOf5
  v5 := Tryd.zeroValue5
  t9 := Tryd.underlying9
  a9 := Tryd.isAgg9
  z9 := Tryd.sizeOf9
  v9 := Tryd.zeroValue9
  t21 := Tryd.underlying21
  a21 := Tryd.isAgg21
  z21 := Tryd.sizeOf21
  v21 := Tryd.zeroValue21
  t46 := Tryd.underlying102
  a46 := Tryd.isAgg102
  z46 := Tryd.sizeOf102
  v46 := Tryd.zeroValue102
  t119 := Tryd.underlying152
  a119 := Tryd.isAgg152
  z119 := Tryd.sizeOf152
  t138 := Tryd.underlying154
  a138 := Tryd.isAgg154
  z138 := Tryd.sizeOf154
  v138 := Tryd.zeroValue154
  t139 := Tryd.underlying155
  a139 := Tryd.isAgg155
  z139 := Tryd.sizeOf155
  v139 := Tryd.zeroValue155
  g3 := by kernel_rfl
  g4 := by kernel_rfl }
open Go.RowKit Go.Lib in
theorem Tryd.utf8_decodeRuneInStringSlow (s : ByteArray) (w : World) (hT : Lib.Utf8Tabs 9 10 w) :
    Calls Tryd.prog 90 #[.string s] w fun e w' => e = .returned (.tuple #[.int .i32 (Lib.decodeGo s).1, .int .i64 (Lib.decodeGo s).2]) ∧ Below w.heap.size w w' := Any.utf8_decodeRuneInStringSlow Tryd.lays260 s w hT
def Tryd.lays113_ren : Go.Shelf.Ren := ⟨fun | 113 => 49 | n => n, fun | 28 => 23 | 3 => 3 | 4 => 4 | 9 => 9 | 20 => 20 | 0 => 0 | n => n, fun | n => n⟩
theorem Tryd.lays113 : Go.Proofs.Lays.n113 Tryd.prog Tryd.lays113_ren := {
  mixed := by kernel_rfl
  f113 := Tryd.func49.trans (congrArg some (by kernel_rfl))
  t0 := Tryd.underlying0
  a0 := Tryd.isAgg0
  z0 := Tryd.sizeOf0
  v0 := Tryd.zeroValue0
  t3 := Tryd.underlying3
  a3 := Tryd.isAgg3
  z3 := Tryd.sizeOf3
  v3 := Tryd.zeroValue3
  t4 := Tryd.underlying4
  a4 := Tryd.isAgg4
  z4 := Tryd.sizeOf4
  v4 := Tryd.zeroValue4
  t9 := Tryd.underlying9
  a9 := Tryd.isAgg9
  z9 := Tryd.sizeOf9
  v9 := Tryd.zeroValue9
  t20 := Tryd.underlying20
  a20 := Tryd.isAgg20
  z20 := Tryd.sizeOf20
  v20 := Tryd.zeroValue20
  t28 := Tryd.underlying23
  a28 := Tryd.isAgg23
  z28 := Tryd.sizeOf23
  v28 := Tryd.zeroValue23 }
open Go.Lib in
/-- slices.Max at []int: "Max returns the maximal value in x. It panics if x is empty.": OF A SLICE THAT IS NOT EMPTY IT RETURNS 'Lib.maxOf (the elements)'; the world is as it was. (Of an empty one it panics: no contract here.) (LAID: no walk: one application.) -/
theorem Tryd.slices_Max_int (b off n c : Nat) (zs : List Int) (w : World) (hn : 0 < n) (hz : n ≤ zs.length) (hbig : n ≤ 9223372036854775807) (hc : ∀ j, j < zs.length → w.cell? ⟨b, off + j, none⟩ = some (.int .i64 (zs.getD j 0))) :
    Calls Tryd.prog 49 #[.slice (some ⟨b, off, none⟩) n c] w fun e w' => e = .returned (.int .i64 (Lib.maxOf (zs.take n))) ∧ w' = w := Any.slices_Max_int Tryd.lays113 b off n c zs w hn hz hbig hc
def Tryd.lays114_ren : Go.Shelf.Ren := ⟨fun | 114 => 48 | n => n, fun | 28 => 23 | 3 => 3 | 4 => 4 | 9 => 9 | 20 => 20 | 0 => 0 | n => n, fun | n => n⟩
theorem Tryd.lays114 : Go.Proofs.Lays.n114 Tryd.prog Tryd.lays114_ren := {
  mixed := by kernel_rfl
  f114 := Tryd.func48.trans (congrArg some (by kernel_rfl))
  t0 := Tryd.underlying0
  a0 := Tryd.isAgg0
  z0 := Tryd.sizeOf0
  v0 := Tryd.zeroValue0
  t3 := Tryd.underlying3
  a3 := Tryd.isAgg3
  z3 := Tryd.sizeOf3
  v3 := Tryd.zeroValue3
  t4 := Tryd.underlying4
  a4 := Tryd.isAgg4
  z4 := Tryd.sizeOf4
  v4 := Tryd.zeroValue4
  t9 := Tryd.underlying9
  a9 := Tryd.isAgg9
  z9 := Tryd.sizeOf9
  v9 := Tryd.zeroValue9
  t20 := Tryd.underlying20
  a20 := Tryd.isAgg20
  z20 := Tryd.sizeOf20
  v20 := Tryd.zeroValue20
  t28 := Tryd.underlying23
  a28 := Tryd.isAgg23
  z28 := Tryd.sizeOf23
  v28 := Tryd.zeroValue23 }
open Go.Lib in
/-- slices.Min at []int: "Min returns the minimal value in x. It panics if x is empty.": OF A SLICE THAT IS NOT EMPTY IT RETURNS 'Lib.minOf (the elements)'; the world is as it was. (Of an empty one it panics: no contract here.) (LAID: no walk: one application.) -/
theorem Tryd.slices_Min_int (b off n c : Nat) (zs : List Int) (w : World) (hn : 0 < n) (hz : n ≤ zs.length) (hbig : n ≤ 9223372036854775807) (hc : ∀ j, j < zs.length → w.cell? ⟨b, off + j, none⟩ = some (.int .i64 (zs.getD j 0))) :
    Calls Tryd.prog 48 #[.slice (some ⟨b, off, none⟩) n c] w fun e w' => e = .returned (.int .i64 (Lib.minOf (zs.take n))) ∧ w' = w := Any.slices_Min_int Tryd.lays114 b off n c zs w hn hz hbig hc
def Tryd.laysNm215_ren : Go.Shelf.Ren := ⟨fun | 15 => 65 | n => n, fun | 22 => 23 | 3 => 3 | 4 => 4 | n => n, fun | n => n⟩
theorem Tryd.laysNm215 : Go.Proofs.Lays2.n15 Tryd.prog Tryd.laysNm215_ren := {
  mixed := by kernel_rfl
  f15 := Tryd.func65.trans (congrArg some (by kernel_rfl))
  t3 := Tryd.underlying3
  a3 := Tryd.isAgg3
  z3 := Tryd.sizeOf3
  v3 := Tryd.zeroValue3
  t4 := Tryd.underlying4
  a4 := Tryd.isAgg4
  z4 := Tryd.sizeOf4
  v4 := Tryd.zeroValue4
  t22 := Tryd.underlying23
  a22 := Tryd.isAgg23
  z22 := Tryd.sizeOf23
  v22 := Tryd.zeroValue23
  i3 := by kernel_rfl }
open Go.RowKit Go.Lib in
/-- slices.Clone at []int: "Clone returns a copy of the slice. The elements are copied using assignment, so this is a shallow clone. The result may have additional unused capacity. The result preserves the nilness of s.": OF A SLICE THAT IS NOT nil IT RETURNS A SLICE THAT IS NOT nil, OF THE SAME ELEMENTS, IN MEMORY OF THE CALL's OWN: in the how-to's words (6f): 'w'.ownsRow B e 1 v' n cells': v' begins at the head of a row among the blocks from B on (B: the heap's size at the call), not frozen, whose first cells are the elements · 'Below B w w'': below B all is as it was. The capacity is whatever the run-time gives. 'zs': what the cells behind the slice's address hold; 'zs.take n': its elements. (LAID: no walk: one application.) -/
theorem Tryd.slices_Clone_int (b off n c : Nat) (zs : List Int) (w : World) (hz : n ≤ zs.length) (hbig : n * 8 ≤ 140737488355328) (hc : ∀ j, j < zs.length → w.cell? ⟨b, off + j, none⟩ = some (.int .i64 (zs.getD j 0))) :
    Calls Tryd.prog 65 #[.slice (some ⟨b, off, none⟩) n c] w fun e w' => ∃ v', e = .returned v' ∧ w'.ownsRow w.heap.size 3 1 v' n ((zs.take n).map (Value.int .i64)) ∧ v' ≠ .slice none 0 0 ∧ Below w.heap.size w w' := Any.slices_Clone_int Tryd.laysNm215 b off n c zs w hz hbig hc
open Go.RowKit Go.Lib in
/-- The same at nil: nil comes back; the world is as it was. (LAID: no walk: one application.) -/
theorem Tryd.slices_Clone_int_nil (n c : Nat) (w : World) :
    Calls Tryd.prog 65 #[.slice none n c] w fun e w' => e = .returned (.slice none 0 0) ∧ w' = w := Any.slices_Clone_int_nil Tryd.laysNm215 n c w
open Go.RowKit Go.Lib in
/-- The same at a slice of length 0 that is not nil, WHATEVER ITS ADDRESS (no cell is asked for): a slice that is not nil and owns nothing comes back. (LAID: no walk: one application.) -/
theorem Tryd.slices_Clone_int_zero (a : Addr) (c : Nat) (w : World) :
    Calls Tryd.prog 65 #[.slice (some a) 0 c] w fun e w' => ∃ v', e = .returned v' ∧ w'.ownsRow w.heap.size 3 1 v' 0 [] ∧ v' ≠ .slice none 0 0 ∧ Below w.heap.size w w' := Any.slices_Clone_int_zero Tryd.laysNm215 a c w
end Go.Proofs

/- KNUTH and YAO's tree of right weights: what the reference's functions answer. No condition. -/
namespace Go.Proofs.YtioekjkfhbopkaaDoor
open Go Go.RowKit Go.Proofs.YtioekjkfhbopkaaDoorW.PrintWords

theorem bitLen_bounds : ∀ (m : Nat), m < 2 ^ 13 → m < 2 ^ Lib.bitLen m ∧ (∀ k, k < Lib.bitLen m → 2 ^ k ≤ m) ∧ Lib.bitLen m ≤ 13 := by
  have key : ∀ (n m : Nat), m < 2 ^ n → n ≤ 13 → m < 2 ^ Lib.bitLen m ∧ (∀ k, k < Lib.bitLen m → 2 ^ k ≤ m) ∧ Lib.bitLen m ≤ n := by
    intro n
    induction n with
    | zero =>
      intro m hm _
      obtain rfl : m = 0 := by simpa using hm
      have e : Lib.bitLen 0 = 0 := by decide
      rw [e]
      exact ⟨by decide, fun k h => absurd h (Nat.not_lt_zero _), Nat.le_refl _⟩
    | succ n ih =>
      intro m hm hn
      by_cases h0 : m = 0
      · subst h0
        have e : Lib.bitLen 0 = 0 := by decide
        rw [e]
        exact ⟨by decide, fun k h => absurd h (Nat.not_lt_zero _), Nat.zero_le _⟩
      · have h13 : (2 : Nat) ^ (n + 1) ≤ 2 ^ 13 := Nat.pow_le_pow_right (by decide) hn
        have hb := Lib.bitLen_half m h0 (by
          have : (2 : Nat) ^ 13 ≤ 2 ^ 64 := Nat.pow_le_pow_right (by decide) (by decide)
          omega)
        obtain ⟨a, b, c⟩ := ih (m / 2) (by rw [Nat.pow_succ] at hm; omega) (by omega)
        rw [hb]
        generalize Lib.bitLen (m / 2) = q at a b c
        refine ⟨by rw [Nat.add_comm, Nat.pow_succ]; omega, fun k hk => ?_, by omega⟩
        cases k with
        | zero => simp; omega
        | succ k => have := b k (by omega); rw [Nat.pow_succ]; omega
  exact fun m hm => key 13 m hm (Nat.le_refl _)
/-- the depth of the tree -/
def dep (W : List Int) : Nat := Lib.bitLen (W.sum - 1).toNat
theorem dep_le {W : List Int} (h : GoodW W) : W.sum ≤ (2 ^ dep W : Nat) ∧ (∀ k, k < dep W → ((2 ^ k : Nat) : Int) < W.sum) ∧ dep W ≤ 12 := by
  have h1 := h.pos
  have h2 := h.le
  obtain ⟨a, b, c⟩ := bitLen_bounds (W.sum - 1).toNat (by omega)
  unfold dep
  refine ⟨by omega, fun k hk => by have := b k hk; omega, ?_⟩
  rcases Nat.lt_or_ge 12 (Lib.bitLen (W.sum - 1).toNat) with q | q
  · have := b 12 q
    omega
  · exact q
/-- the parts: the weights, and what is left over -/
def parts (W : List Int) : List Nat := W.map Int.toNat ++ [(((2 ^ dep W : Nat) : Int) - W.sum).toNat]
theorem parts_len (W : List Int) : (parts W).length = W.length + 1 := by simp [parts]
theorem parts_at {W : List Int} (h : GoodW W) (i : Nat) (hi : i < W.length) : ((parts W).getD i 0 : Int) = W.getD i 0 := by
  unfold parts
  have h0 := h.nn i
  rw [List.getD_eq_getElem?_getD, List.getElem?_append_left (by simpa using hi), List.getElem?_map]
  rw [List.getD_eq_getElem?_getD] at h0 ⊢
  rw [List.getElem?_eq_getElem hi] at h0 ⊢
  simp at h0 ⊢
  omega
theorem parts_last {W : List Int} (h : GoodW W) : ((parts W).getD W.length 0 : Int) = ((2 ^ dep W : Nat) : Int) - W.sum := by
  have := (dep_le h).1
  unfold parts
  generalize 2 ^ dep W = q at this ⊢
  rw [List.getD_eq_getElem?_getD, List.getElem?_append_right (by simp)]
  simp
  omega
theorem sum_toNat {W : List Int} (h : ∀ i, 0 ≤ W.getD i 0) : ((W.map Int.toNat).sum : Int) = W.sum := by
  induction W with
  | nil => rfl
  | cons x l ih =>
    have h0 := h 0
    have := ih (fun i => by have := h (i + 1); simpa using this)
    simp at h0
    rw [List.map_cons, List.sum_cons, List.sum_cons]
    omega
theorem parts_sum {W : List Int} (h : GoodW W) : (parts W).sum = 2 ^ dep W := by
  have h1 := sum_toNat h.nn
  have h2 := (dep_le h).1
  unfold parts
  generalize 2 ^ dep W = q at h2 ⊢
  rw [List.sum_append, List.sum_cons, List.sum_nil]
  generalize (W.map Int.toNat).sum = s at h1 ⊢
  omega
theorem parts_le {W : List Int} (h : GoodW W) (i : Nat) : (parts W).getD i 0 ≤ 4096 := by
  by_cases hi : i < (parts W).length
  · have h1 : (parts W).getD i 0 ∈ parts W := by
      rw [List.getD_eq_getElem?_getD, List.getElem?_eq_getElem hi]
      exact List.getElem_mem hi
    have h2 := le_sumN _ _ h1
    rw [parts_sum h] at h2
    have h3 : (2 : Nat) ^ dep W ≤ 2 ^ 12 := Nat.pow_le_pow_right (by decide) (dep_le h).2.2
    omega
  · rw [List.getD_eq_getElem?_getD, List.getElem?_eq_none (by omega)]
    exact Nat.zero_le _
theorem powerAbove_l0 {W : List Int} (h : GoodW W) : ∀ (e k : Nat), k + e = dep W → Ev (fun n => PSampleDraw.demonref4_PowerAbove.l0 n W.sum ((2 ^ k : Nat) : Int) (k : Int)) (((2 ^ dep W : Nat) : Int), (dep W : Int)) := by
  obtain ⟨h1, h2, h3⟩ := dep_le h
  intro e
  induction e with
  | zero =>
    intro k hk
    obtain rfl : k = dep W := by omega
    refine Ev.step (f := fun _ => some _) (fun n => ?_) (Ev.now _)
    simp only [PSampleDraw.demonref4_PowerAbove.l0]
    rw [if_neg (by omega)]
  | succ e ih =>
    intro k hk
    refine Ev.step (fun n => ?_) (ih (k + 1) (by omega))
    have h4 := h2 k (by omega)
    have h5 := h.le
    have hw : wrap64 (((2 ^ k : Nat) : Int) * 2) = ((2 ^ (k + 1) : Nat) : Int) := by rw [Nat.pow_succ]; unfold wrap64; omega
    simp only [PSampleDraw.demonref4_PowerAbove.l0]
    rw [if_pos h4, hw, wrap_up k (by omega)]
theorem powerAbove_f {W : List Int} (h : GoodW W) : Ev (fun n => PSampleDraw.demonref4_PowerAbove.f n W.sum) (((2 ^ dep W : Nat) : Int), (dep W : Int)) := powerAbove_l0 h (dep W) 0 (by omega)
/-- the places of the leaves among the first i -/
def leafTo (P : List Nat) (k i : Nat) : List Int := ((List.range i).filter fun j => bitAt (P.getD j 0) k).map fun (j : Nat) => (j : Int)
theorem leafTo_succ (P : List Nat) (k i : Nat) : leafTo P k (i + 1) = if bitAt (P.getD i 0) k = true then leafTo P k i ++ [(i : Int)] else leafTo P k i := by
  unfold leafTo
  rw [List.range_succ, List.filter_append, List.map_append]
  by_cases h : bitAt (P.getD i 0) k = true
  · rw [if_pos h, List.filter_cons_of_pos (p := fun j => bitAt (P.getD j 0) k) h]
    rfl
  · rw [if_neg h, List.filter_cons_of_neg (p := fun j => bitAt (P.getD j 0) k) h]
    simp
theorem leafTo_len (P : List Nat) (k : Nat) : ∀ i, (leafTo P k i).length ≤ i
  | 0 => by simp [leafTo]
  | i + 1 => by
    rw [leafTo_succ]
    have := leafTo_len P k i
    split
    · rw [List.length_append]; simp; omega
    · omega
theorem leafTo_all (P : List Nat) (D d : Nat) : leafTo P (D - d) P.length = (leafs P D d).map fun (j : Nat) => (j : Int) := rfl
theorem bit_test (x k : Nat) (hx : x ≤ 4096) (hk : k ≤ 12) : Int.tmod (wrap64 (Int.tdiv (x : Int) ((2 ^ k : Nat) : Int))) 2 = 1 ↔ bitAt x k = true := by
  have e : Int.tdiv (x : Int) ((2 ^ k : Nat) : Int) = ((x / 2 ^ k : Nat) : Int) := by
    rw [Int.tdiv_eq_ediv_of_nonneg (by omega)]
    rfl
  have hle : x / 2 ^ k ≤ x := Nat.div_le_self _ _
  unfold bitAt
  rw [e, decide_eq_true_iff]
  generalize x / 2 ^ k = q at hle ⊢
  have ew : wrap64 (q : Int) = (q : Int) := by unfold wrap64; omega
  rw [ew, Int.tmod_eq_emod_of_nonneg (by omega)]
  omega
theorem leavesAt_l1 {W : List Int} (h : GoodW W) (k : Nat) (hk : k ≤ 12) : ∀ (e i : Nat), i + e = W.length + 1 →
    Ev (fun n => PSampleDraw.demonref4_LeavesAt.l1 n W ((2 ^ dep W : Nat) : Int) (leafTo (parts W) k i) ((2 ^ k : Nat) : Int) (i : Int)) (leafTo (parts W) k (W.length + 1)) := by
  have hpow : 0 < 2 ^ k := Nat.two_pow_pos k
  have hlen := h.len
  intro e
  induction e with
  | zero =>
    intro i hi
    obtain rfl : i = W.length + 1 := by omega
    refine Ev.step (f := fun _ => some _) (fun n => ?_) (Ev.now _)
    simp only [PSampleDraw.demonref4_LeavesAt.l1]
    rw [if_neg (by omega)]
  | succ e ih =>
    intro i hi
    have hih := ih (i + 1) (by omega)
    have hx := parts_le h i
    have hlt := leafTo_len (parts W) k i
    have bt := bit_test ((parts W).getD i 0) k hx hk
    rw [leafTo_succ] at hih
    have step : ∀ y : Int, y = ((parts W).getD i 0 : Int) → Ev (fun n => if (((2 ^ k : Nat) : Int)) > 0 then (if ((2 ^ k : Nat) : Int) = 0 then (none) else (if (Int.tmod (wrap64 (Int.tdiv y ((2 ^ k : Nat) : Int))) 2) = 1 then (if (leafTo (parts W) k i).length < 17592186044416 then (PSampleDraw.demonref4_LeavesAt.l1 n W ((2 ^ dep W : Nat) : Int) (leafTo (parts W) k i ++ [(i : Int)]) ((2 ^ k : Nat) : Int) (wrap64 ((i : Int) + 1))) else (none)) else (PSampleDraw.demonref4_LeavesAt.l1 n W ((2 ^ dep W : Nat) : Int) (leafTo (parts W) k i) ((2 ^ k : Nat) : Int) (wrap64 ((i : Int) + 1))))) else (PSampleDraw.demonref4_LeavesAt.l1 n W ((2 ^ dep W : Nat) : Int) (leafTo (parts W) k i) ((2 ^ k : Nat) : Int) (wrap64 ((i : Int) + 1)))) (leafTo (parts W) k (W.length + 1)) := by
      intro y hy
      subst hy
      by_cases hb : bitAt ((parts W).getD i 0) k = true
      · rw [if_pos hb] at hih
        exact Ev.congr (fun n => by rw [if_pos (by omega), if_neg (by omega), if_pos (bt.2 hb), if_pos (by omega), wrap_up i (by omega)]) hih
      · rw [if_neg hb] at hih
        exact Ev.congr (fun n => by rw [if_pos (by omega), if_neg (by omega), if_neg (fun q => hb (bt.1 q)), wrap_up i (by omega)]) hih
    by_cases hi2 : i < W.length
    · have hy := parts_at h i hi2
      refine Ev.step (f := fun n => (PSampleDraw.demonref1_Sum.f n W).bind fun t => _) (fun n => ?_) (Ev.bind (sum_f h) (step _ hy.symm))
      simp only [PSampleDraw.demonref4_LeavesAt.l1]
      rw [if_pos (by omega)]
      congr 1
      funext t
      rw [if_pos (by omega), if_pos (by omega), rd_nat]
    · obtain rfl : i = W.length := by omega
      have hy := parts_last h
      have hs := h.le
      have hs0 := h.pos
      have hd := dep_le h
      have hp12 : (2 : Nat) ^ dep W ≤ 2 ^ 12 := Nat.pow_le_pow_right (by decide) hd.2.2
      have hw : wrap64 (((2 ^ dep W : Nat) : Int) - W.sum) = ((2 ^ dep W : Nat) : Int) - W.sum := by unfold wrap64; omega
      refine Ev.step (f := fun n => (PSampleDraw.demonref1_Sum.f n W).bind fun t => _) (fun n => ?_) (Ev.bind (f := fun n t => if (((2 ^ k : Nat) : Int)) > 0 then (if ((2 ^ k : Nat) : Int) = 0 then (none) else (if (Int.tmod (wrap64 (Int.tdiv (wrap64 (((2 ^ dep W : Nat) : Int) - t)) ((2 ^ k : Nat) : Int))) 2) = 1 then (if (leafTo (parts W) k W.length).length < 17592186044416 then (PSampleDraw.demonref4_LeavesAt.l1 n W ((2 ^ dep W : Nat) : Int) (leafTo (parts W) k W.length ++ [(W.length : Int)]) ((2 ^ k : Nat) : Int) (wrap64 ((W.length : Int) + 1))) else (none)) else (PSampleDraw.demonref4_LeavesAt.l1 n W ((2 ^ dep W : Nat) : Int) (leafTo (parts W) k W.length) ((2 ^ k : Nat) : Int) (wrap64 ((W.length : Int) + 1))))) else (PSampleDraw.demonref4_LeavesAt.l1 n W ((2 ^ dep W : Nat) : Int) (leafTo (parts W) k W.length) ((2 ^ k : Nat) : Int) (wrap64 ((W.length : Int) + 1)))) (sum_f h) (step _ (by rw [hw]; exact hy.symm)))
      simp only [PSampleDraw.demonref4_LeavesAt.l1]
      rw [if_pos (by omega)]
      congr 1
      funext t
      rw [if_neg (by omega)]
theorem leavesAt_l0 {W : List Int} (h : GoodW W) (d : Nat) (hd : d ≤ dep W) : ∀ (e i : Nat), i + e = d →
    Ev (fun n => PSampleDraw.demonref4_LeavesAt.l0 n W (d : Int) ((2 ^ dep W : Nat) : Int) ((2 ^ (dep W - i) : Nat) : Int) (i : Int)) (leafTo (parts W) (dep W - d) (W.length + 1)) := by
  have h12 := (dep_le h).2.2
  intro e
  induction e with
  | zero =>
    intro i hi
    obtain rfl : i = d := by omega
    refine Ev.step (fun n => ?_) (leavesAt_l1 h (dep W - i) (by omega) (W.length + 1) 0 (by omega))
    simp only [PSampleDraw.demonref4_LeavesAt.l0]
    rw [if_neg (by omega)]
    rfl
  | succ e ih =>
    intro i hi
    refine Ev.step (fun n => ?_) (ih (i + 1) (by omega))
    have hp : (2 : Nat) ^ (dep W - i) = 2 ^ (dep W - (i + 1)) * 2 := by
      rw [← Nat.pow_succ]
      congr 1
      omega
    have hp12 : (2 : Nat) ^ (dep W - i) ≤ 2 ^ 12 := Nat.pow_le_pow_right (by decide) (by omega)
    have hw : wrap64 (Int.tdiv ((2 ^ (dep W - i) : Nat) : Int) 2) = ((2 ^ (dep W - (i + 1)) : Nat) : Int) := by
      rw [Int.tdiv_eq_ediv_of_nonneg (by omega)]
      unfold wrap64
      omega
    simp only [PSampleDraw.demonref4_LeavesAt.l0]
    rw [if_pos (by omega), hw, wrap_up i (by omega)]
theorem leavesAt_f {W : List Int} (h : GoodW W) (d : Nat) (hd : d ≤ dep W) : Ev (fun n => PSampleDraw.demonref4_LeavesAt.f n W (d : Int)) ((leafs (parts W) (dep W) d).map fun (j : Nat) => (j : Int)) := by
  have h0 := leavesAt_l0 h d hd d 0 (by omega)
  rw [Nat.sub_zero, show W.length + 1 = (parts W).length from (parts_len W).symm, leafTo_all] at h0
  exact Ev.bind (sum_f h) (Ev.bind (powerAbove_f h) h0)
end Go.Proofs.YtioekjkfhbopkaaDoor

/- What the reference draws: the walk along the tree. No condition. -/
namespace Go.Proofs.YtioekjkfhbopkaaDoor
open Go Go.RowKit Go.Proofs.YtioekjkfhbopkaaDoorW.PrintWords

/-- a text's bits -/
def bitsOf (s : ByteArray) : List Nat := s.data.toList.map fun b => if b = 49 then 1 else 0
theorem bitsOf_len (s : ByteArray) : (bitsOf s).length = s.size := by
  unfold bitsOf
  rw [List.length_map]
  rfl
theorem bitsOf_drop (s : ByteArray) (i : Nat) (hi : i < s.size) : (bitsOf s).drop i = (if bt s (i : Int) = 49 then 1 else 0) :: (bitsOf s).drop (i + 1) := by
  have hl : s.data.toList.length = s.size := rfl
  rw [List.drop_eq_getElem_cons (by rw [bitsOf_len]; exact hi)]
  congr 1
  unfold bitsOf
  rw [List.getElem_map, bt_list, List.getD_eq_getElem?_getD, List.getElem?_eq_getElem (by rw [hl]; exact hi)]
  simp only [Option.getD_some]
  generalize s.data.toList[i]'(by rw [hl]; exact hi) = b
  by_cases h : b = 49
  · subst h; rfl
  · rw [if_neg h, if_neg]
    intro e
    apply h
    apply UInt8.toNat_inj.1
    have : b.toNat = 49 := by omega
    rw [this]
    rfl
theorem modSum_le (l : List Nat) (m : Nat) : modSum l m ≤ l.sum := by
  induction l with
  | nil => exact Nat.le_refl _
  | cons x r ih =>
    unfold modSum at *
    rw [List.map_cons, List.sum_cons, List.sum_cons]
    have := Nat.mod_le x m
    omega
theorem nodes_le {l : List Nat} {D : Nat} (h : l.sum = 2 ^ D) (d : Nat) (hd : d ≤ D) : nodesAt l D d ≤ 2 ^ D := by
  have h1 := nodes_mod l D h d hd
  have h2 := modSum_le l (2 ^ (D - d + 1))
  rw [h] at h2
  rw [← h1] at h2
  exact Nat.le_trans (Nat.le_mul_of_pos_right _ (Nat.two_pow_pos _)) h2
theorem nodes_le' {W : List Int} (h : GoodW W) (d : Nat) (hd : d ≤ dep W) : nodesAt (parts W) (dep W) d ≤ 4096 := by
  have h1 := nodes_le (parts_sum h) d hd
  have h2 : (2 : Nat) ^ dep W ≤ 2 ^ 12 := Nat.pow_le_pow_right (by decide) (dep_le h).2.2
  omega
theorem getD_le_of_sum (l : List Nat) (i : Nat) : l.getD i 0 ≤ l.sum := by
  by_cases hi : i < l.length
  · rw [List.getD_eq_getElem?_getD, List.getElem?_eq_getElem hi]
    exact le_sumN _ _ (List.getElem_mem hi)
  · rw [List.getD_eq_getElem?_getD, List.getElem?_eq_none (by omega)]
    exact Nat.zero_le _
theorem leaf_mem (P : List Nat) (D d v : Nat) (hv : v < (leafs P D d).length) : (leafs P D d).getD v 0 < P.length ∧ bitAt (P.getD ((leafs P D d).getD v 0) 0) (D - d) = true := by
  have hm : (leafs P D d).getD v 0 ∈ leafs P D d := by
    rw [List.getD_eq_getElem?_getD, List.getElem?_eq_getElem hv]
    exact List.getElem_mem hv
  obtain ⟨h1, h2⟩ := List.mem_filter.1 hm
  exact ⟨List.mem_range.1 h1, h2⟩
/-- where the tree begins again it has two nodes at depth one -/
theorem again_nodes {W : List Int} (h : GoodW W) {d v : Nat} (hv : v < (leafs (parts W) (dep W) d).length) (ha : ¬ (leafs (parts W) (dep W) d).getD v 0 + 1 < (parts W).length) :
    1 ≤ dep W ∧ nodesAt (parts W) (dep W) 1 = 2 ∧ (leafs (parts W) (dep W) 0).length = 0 := by
  obtain ⟨h1, h2⟩ := leaf_mem _ _ _ _ hv
  have hl := parts_len W
  have e : (leafs (parts W) (dep W) d).getD v 0 = W.length := by omega
  rw [e] at h2
  have h3 := parts_last h
  have h4 := h.pos
  have hx : 0 < (parts W).getD W.length 0 := by
    rcases Nat.eq_zero_or_pos ((parts W).getD W.length 0) with q | q
    · rw [q] at h2
      unfold bitAt at h2
      simp at h2
    · exact q
  have hlast : (parts W).getD W.length 0 < 2 ^ dep W := by omega
  have hsum := parts_sum h
  -- no part is the whole
  have small : ∀ i, (parts W).getD i 0 < 2 ^ dep W := by
    intro i
    have hle := getD_le_of_sum (parts W) i
    by_cases hi : i < W.length
    · have h5 := parts_at h i hi
      have h6 : W.getD i 0 ≤ W.sum := by
        have := take_le h.nn (i + 1) (by omega)
        rw [sum_take W i hi] at this
        have := (take_le h.nn i (by omega)).1
        omega
      omega
    · by_cases hi2 : i = W.length
      · subst hi2; exact hlast
      · rw [List.getD_eq_getElem?_getD, List.getElem?_eq_none (by omega)]
        exact Nat.two_pow_pos _
  have hc : (leafs (parts W) (dep W) 0).length = 0 := by
    rw [List.length_eq_zero_iff]
    unfold leafs
    rw [List.filter_eq_nil_iff]
    intro i _
    have := small i
    unfold bitAt
    rw [Nat.sub_zero, Nat.div_eq_of_lt this]
    decide
  refine ⟨?_, ?_, hc⟩
  · rcases Nat.eq_zero_or_pos (dep W) with q | q
    · rw [q] at hlast; omega
    · exact q
  · rw [nodesAt, nodesAt, ← leafs_len, hc]
/-- what is drawn, in the program's words -/
def drawn (o : Option (Nat × Nat)) : Int × Int × Bool := match o with
  | some (k, n) => ((k : Int), (n : Int), true)
  | none => (0, 0, false)
/-- what a round does with the leaves of its depth -/
def drawK (k : Nat) (x0 : List Int) (x1 : ByteArray) (x7 x8 x9 : Int) (l : List Int) : Option (Int × Int × Bool) :=
  if x7 < (l.length : Int) then (if 0 ≤ x7 then (if (rd l x7) < (x0.length : Int) then (some (rd l x7, x9, true)) else ((PSampleDraw.demonref4_LeavesAt.f k x0 0).bind fun t139 => (PSampleDraw.demonref4_DrawOf.j1 k x0 x1 0 0 x9 t139))) else (none)) else (PSampleDraw.demonref4_DrawOf.j1 k x0 x1 x7 x8 x9 l)
theorem draw_round {W : List Int} {s : ByteArray} {v d used : Int} {L : List Int} {r : Int × Int × Bool} (hL : Ev (fun n => PSampleDraw.demonref4_LeavesAt.f n W d) L) (h : Ev (fun n => drawK n W s v d used L) r) : Ev (fun n => PSampleDraw.demonref4_DrawOf.l0 n W s v d used) r :=
  Ev.step (f := fun n => (PSampleDraw.demonref4_LeavesAt.f n W d).bind (drawK n W s v d used)) (fun n => by simp only [PSampleDraw.demonref4_DrawOf.l0]; rfl) (Ev.bind hL h)
theorem drawOf_l0 {W : List Int} (h : GoodW W) (s : ByteArray) (hs : s.size ≤ 2000000) (hb : isBits s = true) : ∀ (e used v d : Nat), used + e = s.size → d ≤ dep W → v < nodesAt (parts W) (dep W) d →
    Ev (fun n => PSampleDraw.demonref4_DrawOf.l0 n W s (v : Int) (d : Int) (used : Int)) (drawn (drawB (parts W) (dep W) ((bitsOf s).drop used) v d used)) := by
  have hD := dep_le h
  have hbits := (isBits_iff s).1 hb
  intro e
  induction e with
  | zero =>
    intro used v d hu hd hv
    obtain rfl : used = s.size := by omega
    have hdrop : (bitsOf s).drop s.size = [] := List.drop_eq_nil_of_le (by rw [bitsOf_len]; exact Nat.le_refl _)
    have hv4 := nodes_le' h d hd
    rw [hdrop]
    have fin2 : ∀ (v8 d8 : Int), Ev (fun n => PSampleDraw.demonref4_DrawOf.j2 n W s v8 d8 (s.size : Int)) (0, 0, false) := fun v8 d8 =>
      Ev.step (f := fun _ => some (0, 0, false)) (fun n => by simp only [PSampleDraw.demonref4_DrawOf.j2]; rw [if_pos (by simp)]) (Ev.now _)
    have fin1 : ∀ (v8 d8 : Int) (l : List Int), Ev (fun n => PSampleDraw.demonref4_DrawOf.j1 n W s v8 d8 (s.size : Int) l) (0, 0, false) := fun v8 d8 l => by
      by_cases q : d8 = 0
      · exact Ev.step (fun n => by simp only [PSampleDraw.demonref4_DrawOf.j1]; rw [if_pos q]) (fin2 _ _)
      · exact Ev.step (fun n => by simp only [PSampleDraw.demonref4_DrawOf.j1]; rw [if_neg q]) (fin2 _ _)
    have hL := leavesAt_f h d hd
    unfold drawB
    generalize hLs : leafs (parts W) (dep W) d = L at hL ⊢
    by_cases c1 : v < L.length
    · have c1' : (v : Int) < ((L.map fun (j : Nat) => (j : Int)).length : Int) := by rw [List.length_map]; omega
      have hr : rd (L.map fun (j : Nat) => (j : Int)) (v : Int) = ((L.getD v 0 : Nat) : Int) := by
        rw [rd_nat]; simp [List.getD_eq_getElem?_getD, c1]
      by_cases c2 : L.getD v 0 + 1 < (parts W).length
      · rw [if_pos ⟨c1, c2⟩]
        rw [parts_len] at c2
        exact draw_round hL (Ev.congr (fun n => by unfold drawK; rw [if_pos c1', if_pos (by omega), hr, if_pos (by omega)]; rfl) (Ev.now _))
      · rw [if_neg (fun q => c2 q.2)]
        rw [parts_len] at c2
        exact draw_round hL (Ev.congr (f := fun n => (PSampleDraw.demonref4_LeavesAt.f n W ((0 : Nat) : Int)).bind fun t => PSampleDraw.demonref4_DrawOf.j1 n W s 0 0 (s.size : Int) t) (fun n => by unfold drawK; rw [if_pos c1', if_pos (by omega), hr, if_neg (by omega)]; rfl) (Ev.bind (leavesAt_f h 0 (by omega)) (fin1 _ _ _)))
    · rw [if_neg (fun q => c1 q.1)]
      exact draw_round hL (Ev.congr (fun n => by unfold drawK; rw [if_neg (by rw [List.length_map]; omega)]) (fin1 _ _ _))
  | succ e ih =>
    intro used v d hu hd hv
    have hlt : used < s.size := by omega
    have hv4 := nodes_le' h d hd
    rw [bitsOf_drop s used hlt]
    have hbt := hbits used hlt
    obtain ⟨b, hb1, hb2, hbe⟩ : ∃ b : Nat, (if bt s (used : Int) = 49 then 1 else 0) = b ∧ b ≤ 1 ∧ (bt s (used : Int) = 49 ↔ b = 1) := by
      by_cases q : bt s (used : Int) = 49
      · exact ⟨1, by rw [if_pos q], by decide, by simp [q]⟩
      · exact ⟨0, by rw [if_neg q], by decide, by simp [q]⟩
    rw [hb1]
    have step2 : ∀ (v8 d8 : Nat), v8 ≤ 4096 → d8 ≤ 4096 → d8 + 1 ≤ dep W → 2 * v8 + b < nodesAt (parts W) (dep W) (d8 + 1) → Ev (fun n => PSampleDraw.demonref4_DrawOf.j2 n W s (v8 : Int) (d8 : Int) (used : Int)) (drawn (drawB (parts W) (dep W) ((bitsOf s).drop (used + 1)) (2 * v8 + b) (d8 + 1) (used + 1))) := by
      intro v8 d8 h8 h9 g1 g2
      have hih := ih (used + 1) (2 * v8 + b) (d8 + 1) (by omega) g1 g2
      have hw2 : wrap64 (2 * (v8 : Int)) = ((2 * v8 : Nat) : Int) := by unfold wrap64; omega
      by_cases q : bt s (used : Int) = 49
      · have := hbe.1 q
        subst this
        exact Ev.step (fun n => by simp only [PSampleDraw.demonref4_DrawOf.j2]; rw [if_neg (by omega), if_pos (by omega), if_pos (by omega), if_pos q, hw2, wrap_up _ (by omega), wrap_up d8 (by omega), wrap_up used (by omega)]) hih
      · obtain rfl : b = 0 := by
          rcases Nat.eq_zero_or_pos b with r | r
          · exact r
          · exact absurd (hbe.2 (by omega)) q
        exact Ev.step (fun n => by simp only [PSampleDraw.demonref4_DrawOf.j2]; rw [if_neg (by omega), if_pos (by omega), if_pos (by omega), if_neg q, hw2, wrap_up d8 (by omega), wrap_up used (by omega)]; rfl) hih
    have hL := leavesAt_f h d hd
    unfold drawB
    by_cases c1 : v < (leafs (parts W) (dep W) d).length
    · have hag := fun c2 => again_nodes h c1 c2
      rw [if_pos c1]
      generalize hLs : leafs (parts W) (dep W) d = L at hL c1 hag ⊢
      have c1' : (v : Int) < ((L.map fun (j : Nat) => (j : Int)).length : Int) := by rw [List.length_map]; omega
      have hr : rd (L.map fun (j : Nat) => (j : Int)) (v : Int) = ((L.getD v 0 : Nat) : Int) := by
        rw [rd_nat]; simp [List.getD_eq_getElem?_getD, c1]
      by_cases c2 : L.getD v 0 + 1 < (parts W).length
      · rw [if_pos c2]
        rw [parts_len] at c2
        exact draw_round hL (Ev.congr (fun n => by unfold drawK; rw [if_pos c1', if_pos (by omega), hr, if_pos (by omega)]; rfl) (Ev.now _))
      · rw [if_neg c2]
        obtain ⟨a1, a2, a3⟩ := hag c2
        rw [parts_len] at c2
        have := step2 0 0 (by omega) (by omega) (by omega) (by rw [a2]; omega)
        rw [Nat.mul_zero, Nat.zero_add, Nat.zero_add] at this
        exact draw_round hL (Ev.congr (f := fun n => (PSampleDraw.demonref4_LeavesAt.f n W ((0 : Nat) : Int)).bind fun t => PSampleDraw.demonref4_DrawOf.j1 n W s 0 0 (used : Int) t) (fun n => by unfold drawK; rw [if_pos c1', if_pos (by omega), hr, if_neg (by omega)]; rfl) (Ev.bind (leavesAt_f h 0 (by omega)) (Ev.step (f := fun n => PSampleDraw.demonref4_DrawOf.j2 n W s 0 0 (used : Int)) (fun n => by simp only [PSampleDraw.demonref4_DrawOf.j1]; rw [if_pos (by trivial)]) this)))
    · rw [if_neg c1]
      obtain ⟨n1, n2⟩ := next_node (parts_sum h) hd hv c1 hb2
      have hn4 := nodes_le' h (d + 1) n1
      generalize hLs : leafs (parts W) (dep W) d = L at hL c1 n2 ⊢
      have hst := step2 (v - L.length) d (by omega) (by omega) n1 n2
      refine draw_round hL (Ev.congr (fun n => by unfold drawK; rw [if_neg (by rw [List.length_map]; omega)]) ?_)
      by_cases q : d = 0
      · subst q
        have hv0 : v = 0 := by rw [nodesAt] at hv; omega
        have hz : v - L.length = 0 := by omega
        rw [hz] at hst ⊢
        exact Ev.step (fun n => by simp only [PSampleDraw.demonref4_DrawOf.j1]; rw [if_pos (by simp)]; rfl) hst
      · have hw : wrap64 ((v : Int) - ((L.map fun (j : Nat) => (j : Int)).length : Int)) = ((v - L.length : Nat) : Int) := by rw [List.length_map]; unfold wrap64; omega
        exact Ev.step (fun n => by simp only [PSampleDraw.demonref4_DrawOf.j1]; rw [if_neg (by omega), hw]) hst
theorem drawOf_f {W : List Int} (h : GoodW W) (s : ByteArray) (hs : s.size ≤ 2000000) (hb : isBits s = true) : Ev (fun n => PSampleDraw.demonref4_DrawOf.f n W s) (drawn (drawB (parts W) (dep W) (bitsOf s) 0 0 0)) :=
  drawOf_l0 h s hs hb s.size 0 0 0 (by omega) (Nat.zero_le _) (by rw [nodesAt]; omega)
end Go.Proofs.YtioekjkfhbopkaaDoor

/- Helpers for the sample seat: copies that one owns, cells of rows, make. No condition. -/
namespace Go.Proofs.YtioekjkfhbopkaaDoor
open Go.RowKit Go.Deep Go.Sort Go.Proofs.YtioekjkfhbopkaaDoorW.PrintWords

theorem grown_of_below {w w' : World} (h : Below w.heap.size w w') : w.grownBy w' none := ⟨h.os, h.tape, h.output, h.size, fun k hk _ => h.block k hk⟩
theorem own_below {w w' : World} {base e size n : Nat} {v : Value} {xs : List Value} (h : w.ownsRow base e size v n xs) (hb : Below w.heap.size w w') : w'.ownsRow base e size v n xs := h.kept (grown_of_below hb) (by cases v.ownBlock <;> simp)
theorem own_ints {w : World} {base n c e : Nat} {A : Option Addr} {l : List Int} (h : w.ownsRow base e 1 (.slice A n c) n (intCells l)) (hn : l.length = n) : Ints w A l := by
  subst hn
  exact Ints.own h
theorem own_list {w : World} {base e : Nat} {v : Value} {n : Nat} {l : List Int} (h : w.ownsRow base e 1 v n (intCells l)) : w.ownsRow base e 1 v l.length (intCells l) := by
  have : n = l.length := by have := h.1; rw [intCells_length] at this; omega
  rw [← this]; exact h
theorem ints_one {w : World} {b : Nat} {y : Int} (hb : b < w.heap.size) (h : w.cell? ⟨b, 0, none⟩ = some (.int .i64 y)) : Ints w (some ⟨b, 0, none⟩) [y] :=
  ⟨by simp, fun i hi => by
    obtain rfl : i = 0 := by simp at hi; omega
    exact ⟨b, 0, rfl, hb, h⟩⟩
/-- a copy that the call owns -/
theorem clone_ok (A : Option Addr) (l : List Int) (c : Nat) (w : World) (hA : Ints w A l) (h0 : 0 < l.length) (hl : l.length ≤ 2000000) :
    Calls Tryd.prog 65 #[.slice A l.length c] w fun e w' => ∃ g d, e = .returned (.slice (some ⟨g, 0, none⟩) l.length d) ∧ w.heap.size ≤ g ∧ l.length ≤ d ∧ w'.ownsRow w.heap.size 3 1 (.slice (some ⟨g, 0, none⟩) l.length d) l.length (intCells l) ∧ Below w.heap.size w w' := by
  obtain ⟨b, off, rfl, _, _⟩ := hA.at_ 0 h0
  have hc : ∀ j, j < l.length → w.cell? ⟨b, off + j, none⟩ = some (.int .i64 (l.getD j 0)) := fun j hj => by
    obtain ⟨b1, off1, e, _, h⟩ := hA.at_ j hj
    injection e with e
    injection e with e1 e2 _
    subst e1 e2
    exact h
  refine (Tryd.slices_Clone_int b off l.length c l w (Nat.le_refl _) (by omega) hc).mono ?_
  rintro e w' ⟨v, rfl, ho, hne, hb⟩
  rw [List.take_length] at ho
  obtain ⟨g, d, rfl, hg, _, hd, _⟩ := Lib.holds_of_ownsRow ho hne
  exact ⟨g, d, rfl, hg, hd, ho, hb⟩
theorem own_same {w w' : World} {base e size n : Nat} {v : Value} {xs : List Value} (h : w.ownsRow base e size v n xs) (hs : ∀ b, v.ownBlock = some b → w'.heap[b]? = w.heap[b]?) : w'.ownsRow base e size v n xs := by
  refine ⟨h.1, ?_⟩
  rcases h.2 with h0 | ⟨g, cap, cur, rfl, hb, hh, r⟩
  · exact .inl h0
  · exact .inr ⟨g, cap, cur, rfl, hb, (hs g rfl).trans hh, r⟩
theorem ints_same {w w' : World} {b : Nat} {l : List Int} (h : Ints w (some ⟨b, 0, none⟩) l) (hs : w'.heap[b]? = w.heap[b]?) : Ints w' (some ⟨b, 0, none⟩) l :=
  ⟨h.len, fun i hi => by
    obtain ⟨b', off, e, hb, hc⟩ := h.at_ i hi
    injection e with e
    injection e with e1 e2 _
    subst e1 e2
    have hc' := (World.cell?_of_block (a := ⟨b, 0 + i, none⟩) hs).trans hc
    exact ⟨b, 0, rfl, World.block_lt_of_cell? w' _ hc', hc'⟩⟩
theorem heap_set_other (w : World) (g o : Nat) (v : Value) (b : Nat) (h : b ≠ g) : (w.setCell ⟨g, o, none⟩ v).heap[b]? = w.heap[b]? := by
  simp [World.setCell, Array.getElem?_modify, Ne.symm h]
theorem own_cell {W : World} {base g n cap : Nat} {e : TypeId} {l : List Int} (h : W.ownsRow base e 1 (.slice (some ⟨g, 0, none⟩) n cap) n (intCells l)) (i : Nat) (hi : i < n) : W.cell? ⟨g, i, none⟩ = some (.int .i64 (l.getD i 0)) ∧ W.frozen? ⟨g, i, none⟩ = false := by
  have := own_at (k := .i64) h (i : Int) (by omega) (by omega)
  rw [Int.toNat_natCast] at this
  exact this
theorem own_put {W : World} {base g n cap : Nat} {e : TypeId} {l : List Int} (h : W.ownsRow base e 1 (.slice (some ⟨g, 0, none⟩) n cap) n (intCells l)) (i : Nat) (x : Int) : (W.setCell ⟨g, i, none⟩ (.int .i64 x)).ownsRow base e 1 (.slice (some ⟨g, 0, none⟩) n cap) n (intCells (l.set i x)) := by
  have := (own_store (k := .i64) h (i : Int) x).1
  rw [Int.toNat_natCast] at this
  exact this

theorem alloc_at (w : World) (o : Obj) : (w.alloc o).heap[w.heap.size]? = some o := by
  show (w.heap.push o)[w.heap.size]? = some o
  simp
theorem alloc_old (w : World) (o : Obj) (g : Nat) (h : g < w.heap.size) : (w.alloc o).heap[g]? = w.heap[g]? := by
  show (w.heap.push o)[g]? = _
  rw [Array.getElem?_push_lt h, Array.getElem?_eq_getElem h]
theorem rows_same (W : World) (g i : Nat) (cs : Array Value) (t : TypeId) (v : Value) (h : W.heap[g]? = some (.cells cs t (0, 0))) : (W.setCell ⟨g, i, none⟩ v).heap[g]? = some (.cells (cs.setIfInBounds i v) t (0, 0)) := by
  simp [World.setCell, Array.getElem?_modify, h]
theorem put_two (W : World) (g : Nat) (t : TypeId) (a b x y : Value) (h : W.heap[g]? = some (.cells #[a, b] t (0, 0))) : ((W.setCell ⟨g, 0, none⟩ x).setCell ⟨g, 1, none⟩ y).heap[g]? = some (.cells #[x, y] t (0, 0)) := by
  have h1 := rows_same W g 0 _ t x h
  have h2 := rows_same _ g 1 _ t y h1
  exact h2
theorem cell_of (W : World) (g i : Nat) (t : TypeId) (cs : Array Value) (u : Value) (h : W.heap[g]? = some (.cells cs t (0, 0))) (hu : cs[i]? = some u) : W.cell? ⟨g, i, none⟩ = some u ∧ W.frozen? ⟨g, i, none⟩ = false := by
  constructor
  · simp [World.cell?, h, hu]
  · simp [World.frozen?, h]
/-- make([]int, n), owned -/
theorem wp_make_own (w : World) {ops : Array Oper} {rest : List Oper} {o : Oper} {a : Act} {Q : Exit → Act → World → Prop}
    (hg : o.guard = none) (l c : Operand) (hop : o.op = Op.makeSlice 23 l c) (kl kc : IntKind) (n : Nat) (hl : a.eval l = .int kl (n : Int)) (hc : a.eval c = .int kc (n : Int)) (hn : n ≤ 1000000) (base : Nat) (hb : base ≤ w.heap.size)
    (hK : ∀ w', w'.ownsRow base 3 1 (.slice (some ⟨w.heap.size, 0, none⟩) n n) n (intCells (List.replicate n 0)) → w.grownBy w' none → wpList Tryd.prog ops Q rest (a.put o.dst (.slice (some ⟨w.heap.size, 0, none⟩) n n)) w') :
    wpList Tryd.prog ops Q (o :: rest) a w := by
  obtain ⟨i0, hi0, hz0, hz1, hz2⟩ := info_parts int_info
  refine wpList_make_full w hg l c _ hop base 3 i0 _ 1 Tryd.underlying23 hi0 hz0 hz1 kl kc n n n hl hc rfl rfl (by rw [hz2]; omega) (by simp only [maxLen]; omega) hb ?_
  intro w' h1 h2
  have e : (madeCells (Value.int IntKind.i64 0).cells (n * 1)).toList = intCells (List.replicate n 0) := by
    apply List.ext_getElem
    · simp [intCells, madeCells, Value.cells]
    · intro i h1 h2
      simp [intCells, madeCells, Value.cells, Nat.mod_one]
  rw [e] at h1
  exact hK w' h1 h2

theorem lists_info : (Tryd.prog.info? 23).map (fun i => (i.zero, i.size, i.bytes)) = some (some (.slice none 0 0), 1, 24) := by kernel_rfl
/-- make([][]int, n), owned: no row yet -/
theorem wp_make_rows (w : World) {ops : Array Oper} {rest : List Oper} {o : Oper} {a : Act} {Q : Exit → Act → World → Prop}
    (hg : o.guard = none) (l c : Operand) (hop : o.op = Op.makeSlice 22 l c) (kl kc : IntKind) (n : Nat) (hl : a.eval l = .int kl (n : Int)) (hc : a.eval c = .int kc (n : Int)) (hn : n ≤ 1000000) (base : Nat) (hb : base ≤ w.heap.size)
    (hK : ∀ w', w'.ownsRow base 23 1 (.slice (some ⟨w.heap.size, 0, none⟩) n n) n (List.replicate n (.slice none 0 0)) → w.grownBy w' none → wpList Tryd.prog ops Q rest (a.put o.dst (.slice (some ⟨w.heap.size, 0, none⟩) n n)) w') :
    wpList Tryd.prog ops Q (o :: rest) a w := by
  obtain ⟨i0, hi0, hz0, hz1, hz2⟩ := info_parts lists_info
  refine wpList_make_full w hg l c _ hop base 23 i0 _ 1 Tryd.underlying22 hi0 hz0 hz1 kl kc n n n hl hc rfl rfl (by rw [hz2]; omega) (by simp only [maxLen]; omega) hb ?_
  intro w' h1 h2
  have e : (madeCells (Value.slice none 0 0).cells (n * 1)).toList = List.replicate n (.slice none 0 0) := by
    apply List.ext_getElem
    · simp [madeCells, Value.cells]
    · intro i h1 h2
      simp [madeCells, Value.cells, Nat.mod_one]
  rw [e] at h1
  exact hK w' h1 h2

/-- append inside a region that draws its order -/
theorem step_app_ints (w : World) {ops : Array Oper} {o : Oper} {a : Act} {K : Act → World → Prop} {Q : Exit → Act → World → Prop} {E : Prop} (hgd : o.guard = none) (s x : Operand)
    (ho : o.op = .call { callee := .builtin .append, args := #[s, x], argTypes := #[23, 23] })
    (base : Nat) (v : Value) (l0 : List Int) (hs : a.eval s = v) (hown : w.ownsRow base 3 1 v l0.length (intCells l0))
    (A : Option Addr) (m c : Nat) (l : List Int) (hx : a.eval x = .slice A m c) (hm : m = l.length) (hr : Ints w A l)
    (hbytes : (l0.length + m) * 8 ≤ 140737488355328) (hbase : base ≤ w.heap.size)
    (h : ∀ A' c' w', (l0 ++ l).length ≤ c' → w'.ownsRow base 3 1 (.slice A' (l0 ++ l).length c') (l0 ++ l).length (intCells (l0 ++ l)) → w.grownBy w' v.ownBlock → ((Value.slice A' (l0 ++ l).length c').ownBlock = v.ownBlock ∨ (Value.slice A' (l0 ++ l).length c').ownBlock = some w.heap.size) →
      K (a.put o.dst (.slice A' (l0 ++ l).length c')) w') :
    if Region.wanted o (yielded ops a.tmps) = true then Oper.wp Tryd.prog o a w K Q else E := by
  obtain ⟨i0, hi0, hz0, hz1, hz2⟩ := info_parts int_info
  subst hm
  refine step_append_any w hgd s x _ ho base 3 i0 _ 1 8 Tryd.underlying23 hi0 hz0 hz1 hz2 rfl (by omega) v l0.length (intCells l0) hs hown w.heap.size A l.length c (intCells l) hx hr.reads (intCells_one l) (by simp only [maxLen]; omega) hbytes hbase ?_
  intro v' w' h1 h2 h3
  rw [← intCells_append, ← List.length_append] at h1
  obtain ⟨A', c', rfl, hc, _⟩ := own_shape h1
  exact h A' c' w' hc h1 h2 h3
theorem Ints.lit (w : World) (l : List Int) (t : TypeId) (hl : l.length ≤ 9223372036854775807) : Ints (w.alloc (.cells (intCells l).toArray t)) (some ⟨w.heap.size, 0, none⟩) l :=
  ⟨hl, fun i hi => ⟨w.heap.size, 0, rfl, by simp, by
    have := intCells_at l i hi
    simpa using this⟩⟩
theorem ints_lit1 (w : World) (y : Int) (t : TypeId) : Ints (w.alloc (.cells #[.int .i64 y] t)) (some ⟨w.heap.size, 0, none⟩) [y] := Ints.lit w [y] t (by simp)
/-- rows of one's own that grow in their places -/
structure LSt (w : World) (base g n cap : Nat) (vs : Nat → Value) (rows : Nat → List Int) : Prop where
  spine : w.ownsRow base 23 1 (.slice (some ⟨g, 0, none⟩) n cap) n ((List.range n).map vs)
  row : ∀ j, j < n → w.ownsRow base 3 1 (vs j) (rows j).length (intCells (rows j))
  apart : ∀ j, j < n → (vs j).ownBlock ≠ some g
  ne : ∀ i, i < n → ∀ j, j < n → i ≠ j → ∀ b, (vs i).ownBlock = some b → (vs j).ownBlock ≠ some b
theorem LSt.start {w : World} {base g n cap : Nat} (h : w.ownsRow base 23 1 (.slice (some ⟨g, 0, none⟩) n cap) n (List.replicate n (.slice none 0 0))) : LSt w base g n cap (fun _ => .slice none 0 0) (fun _ => []) := by
  refine ⟨?_, fun j _ => nil_own _ _ _ _, fun j _ => by simp [Value.ownBlock], fun i _ j _ _ b e => by simp [Value.ownBlock] at e⟩
  rw [show (List.range n).map (fun _ => Value.slice none 0 0) = List.replicate n (Value.slice none 0 0) by
    apply List.ext_getElem
    · simp
    · intro i h1 h2; simp]
  exact h
theorem LSt.cell {w : World} {base g n cap : Nat} {vs : Nat → Value} {rows : Nat → List Int} (h : LSt w base g n cap vs rows) (j : Nat) (hj : j < n) : w.cell? ⟨g, j, none⟩ = some (vs j) ∧ w.frozen? ⟨g, j, none⟩ = false := by
  refine ⟨?_, h.spine.frozenAt j⟩
  rw [h.spine.cellAt j (by omega), List.getElem?_map, List.getElem?_range hj]
  rfl
theorem map_set_range (n d : Nat) (vs : Nat → Value) (u : Value) : ((List.range n).map vs).set d u = (List.range n).map fun j => if j = d then u else vs j := by
  apply List.ext_getElem
  · simp
  · intro i h1 h2
    rw [List.getElem_set]
    simp only [List.getElem_map, List.getElem_range]
    by_cases e : d = i
    · rw [if_pos e, if_pos e.symm]
    · rw [if_neg e, if_neg (fun q => e q.symm)]
theorem LSt.more {w w2 : World} {base g n cap : Nat} {vs : Nat → Value} {rows : Nat → List Int} (h : LSt w base g n cap vs rows) {o : Obj} {d : Nat} (hd : d < n) {v' : Value} {l : List Int}
    (h2 : w2.ownsRow base 3 1 v' l.length (intCells l)) (hg : (w.alloc o).grownBy w2 (vs d).ownBlock) (hor : v'.ownBlock = (vs d).ownBlock ∨ v'.ownBlock = some (w.alloc o).heap.size) :
    LSt (w2.setCell ⟨g, d, none⟩ v') base g n cap (fun j => if j = d then v' else vs j) (fun j => if j = d then l else rows j) := by
  have hsz : (w.alloc o).heap.size = w.heap.size + 1 := World.size_alloc _ _
  have hgl := (h.spine.lt g rfl).2
  have old : ∀ b, b < w.heap.size → some b ≠ (vs d).ownBlock → w2.heap[b]? = w.heap[b]? := fun b hb hne => by
    rw [hg.block b (by omega) hne, alloc_old _ _ _ hb]
  have vlt : ∀ j, j < n → ∀ b, (vs j).ownBlock = some b → b < w.heap.size := fun j hj b e => ((h.row j hj).lt b e).2
  have vg : v'.ownBlock ≠ some g := by
    rcases hor with e | e
    · rw [e]; exact h.apart d hd
    · rw [e]; intro q; injection q with q; omega
  have hsp : w2.ownsRow base 23 1 (.slice (some ⟨g, 0, none⟩) n cap) n ((List.range n).map vs) := own_same h.spine (fun b e => by
    injection e with e
    subst e
    exact old _ hgl (fun q => h.apart d hd q.symm))
  have hset : ∀ b, b ≠ g → (w2.setCell ⟨g, d, none⟩ v').heap[b]? = w2.heap[b]? := fun b hb => heap_set_other w2 g d v' b hb
  refine ⟨?_, fun j hj => ?_, fun j hj => ?_, fun i hi j hj hij b e => ?_⟩
  · have := (hsp.stored d v').1
    rw [map_set_range] at this
    exact this
  · by_cases q : j = d
    · subst q
      simp only [if_true]
      exact own_same h2 (fun b e => hset b (fun q => vg (by rw [e, q])))
    · simp only [if_neg q]
      refine own_same (h.row j hj) (fun b e => ?_)
      rw [hset b (fun r => h.apart j hj (by rw [e, r])), old b (vlt j hj b e) (fun r => h.ne j hj d hd q b e r.symm)]
  · by_cases q : j = d
    · simp only [if_pos q]; exact vg
    · simp only [if_neg q]; exact h.apart j hj
  · by_cases qi : i = d
    · have qj : ¬ j = d := fun q => hij (by omega)
      simp only [if_pos qi, if_neg qj] at e ⊢
      rcases hor with r | r
      · rw [r] at e
        exact h.ne d hd j hj (fun q => qj q.symm) b e
      · rw [r] at e
        injection e with e
        intro q
        have := vlt j hj b q
        omega
    · by_cases qj : j = d
      · simp only [if_neg qi, if_pos qj] at e ⊢
        rcases hor with r | r
        · rw [r]
          exact h.ne i hi d hd qi b e
        · rw [r]
          intro q
          injection q with q
          have := vlt i hi b e
          omega
      · simp only [if_neg qi, if_neg qj] at e ⊢
        exact h.ne i hi j hj hij b e
theorem LSt.congr {w : World} {base g n cap : Nat} {vs vs' : Nat → Value} {rows rows' : Nat → List Int} (h : LSt w base g n cap vs rows) (e1 : ∀ j, j < n → vs j = vs' j) (e2 : ∀ j, j < n → rows j = rows' j) : LSt w base g n cap vs' rows' := by
  refine ⟨?_, fun j hj => by rw [← e1 j hj, ← e2 j hj]; exact h.row j hj, fun j hj => by rw [← e1 j hj]; exact h.apart j hj, fun i hi j hj => by rw [← e1 i hi, ← e1 j hj]; exact h.ne i hi j hj⟩
  rw [List.map_congr_left (fun j hj => (e1 j (List.mem_range.1 hj)).symm)]
  exact h.spine
theorem LSt.lists {w : World} {base g n cap : Nat} {vs : Nat → Value} {rows : Nat → List Int} (h : LSt w base g n cap vs rows) (hn : n ≤ 9223372036854775807) : Lists w (some ⟨g, 0, none⟩) ((List.range n).map rows) :=
  ⟨by simpa using hn, fun j hj => by
    have hj' : j < n := by simpa using hj
    have e : ((List.range n).map rows).getD j [] = rows j := by
      simp [List.getD_eq_getElem?_getD, List.getElem?_map, List.getElem?_range hj']
    rw [e]
    obtain ⟨A, c, ev, hc, _⟩ := own_shape (h.row j hj')
    have hr := h.row j hj'
    have h1 := (h.cell j hj').1
    rw [ev] at hr h1
    exact ⟨g, 0, A, c, rfl, World.block_lt_of_cell? w _ h1, by rw [Nat.zero_add, h1], hc, Ints.own hr⟩⟩
end Go.Proofs.YtioekjkfhbopkaaDoor

/- slices.Backward of whole numbers: its contract as an iterator (the shape of the kit's own contract of slices.All). No condition. -/
namespace Go.Proofs.YtioekjkfhbopkaaDoor
open Go.RowKit Go.Shelf Go.Proofs

attribute [local go_sem] Oper.semAt_some

/-- what comes in the round k: the place and the number there -/
def backAt (l : List Int) (k : Nat) : Int × Int := (((l.length - 1 - k : Nat) : Int), l.getD (l.length - 1 - k) 0)
/-- what has come when k rounds are over -/
def backTo (l : List Int) (k : Nat) : List (Int × Int) := (List.range k).map (backAt l)
theorem backTo_succ (l : List Int) (k : Nat) : backTo l (k + 1) = backTo l k ++ [backAt l k] := by simp [backTo, List.range_succ]
theorem backTo_length (l : List Int) (k : Nat) : (backTo l k).length = k := by simp [backTo]

/-- what a round keeps: all below n₀, and the slice's own box -/
def KpB (n₀ Bs : Nat) (A B : World) : Prop := Below n₀ A B ∧ ∀ v, A.cell? ⟨Bs, 0, none⟩ = some v → B.cell? ⟨Bs, 0, none⟩ = some v
theorem KpB.refl (n₀ Bs : Nat) (A : World) : KpB n₀ Bs A A := ⟨Below.refl _ _, fun _ h => h⟩
theorem KpB.trans {n₀ Bs : Nat} {A B C : World} (h : KpB n₀ Bs A B) (k : KpB n₀ Bs B C) : KpB n₀ Bs A C := ⟨Below.trans h.1 k.1, fun v e => k.2 v (h.2 v e)⟩
set_option maxRecDepth 100000 in
set_option maxHeartbeats 2000000 in
theorem back1_in (F : Fence) (n : Nat) (h8 : F.fn 76) (hro : F.round = none) (hn : 1 ≤ n) (r Bs n₀ b cap : Nat) (off : Nat) (l : List Int) (hlen : l.length ≤ 9223372036854775807) (hb : b < n₀) (J Jx : List (Int × Int) → World → Prop)
    (hY : ∀ pre x W, J pre W → pre.length < l.length → YieldAt F (n - 1) Tryd.prog r #[.int .i64 x.1, .int .i64 x.2] W fun e W' =>
      (e = .returned (.bool true) ∧ J (pre ++ [x]) W' ∧ KpB n₀ Bs W W') ∨ (e = .returned (.bool false) ∧ Jx (pre ++ [x]) W'))
    (W : World) (hBs : W.cell? ⟨Bs, 0, none⟩ = some (.slice (some ⟨b, off, none⟩) l.length cap)) (hc : ∀ j, j < l.length → W.cell? ⟨b, off + j, none⟩ = some (.int .i64 (l.getD j 0))) (h0 : J [] W) :
    CallsIn F n Tryd.prog 76 #[.func (.yield r) #[] #[], .pointer (some ⟨Bs, 0, none⟩)] W fun e W' => (∃ v, e = .returned v) ∧
      (J (backTo l l.length) W' ∨ (∃ pre, (∃ k, k ≤ l.length ∧ pre = backTo l k) ∧ Jx pre W')) := by
  refine callsIn_of_wp Tryd.func76 rfl h8 ?_ hro
  simp only [Tryd.ntmps76, List.size_toArray, List.length_cons, List.length_nil, Nat.reduceAdd, Nat.reduceSub, Array.replicate_succ, Array.replicate_zero, List.push_toArray, List.append_toArray, List.nil_append, List.cons_append]
  gi_wp2
  gi_loopw [3] (fun v wr => ∃ (k : Nat) (i : Int), k ≤ l.length ∧ i = (l.length : Int) - 1 - k ∧ v = .int .i64 i ∧ J (backTo l k) wr ∧ KpB n₀ Bs W wr)
    (fun v _ => (intOf v + 1).toNat)
  case atStart => exact ⟨0, _, Nat.zero_le _, by omega, rfl, h0, KpB.refl _ _ _⟩
  case round =>
    obtain ⟨k, i, hk, hi, rfl, hJs, hnx⟩ := hrel
    have hs : wr.cell? ⟨Bs, 0, none⟩ = some (.slice (some ⟨b, off, none⟩) l.length cap) := hnx.2 _ hBs
    by_cases hlt : k < l.length
    · obtain ⟨j, rfl⟩ : ∃ j : Nat, i = (j : Int) := ⟨l.length - 1 - k, by omega⟩
      have hj : j = l.length - 1 - k := by omega
      have hjl : j < l.length := by omega
      have hcx := (hnx.1.cell (p := ⟨b, off + j, none⟩) hb).trans (hc j hjl)
      have hba : backAt l k = ((j : Int), l.getD j 0) := by unfold backAt; rw [← hj]
      have hbs := backTo_succ l k
      rw [hba] at hbs
      obtain ⟨fn, tmps, assign, body, hy, hR⟩ := hY _ ((j : Int), l.getD j 0) wr hJs (by rw [backTo_length]; exact hlt)
      rw [← hbs] at hR
      dsimp only at hy
      have j0 : (0 : Int) ≤ (j : Int) := Int.natCast_nonneg _
      have j1 : (j : Int) < (l.length : Int) := by omega
      generalize l.getD j 0 = x at hcx hy hR
      have HI := hide hi
      clear hj hi hbs hba
      gi_wp2
      refine hR.mono ?_
      rintro e W3 (⟨rfl, hJ3, hk3⟩ | ⟨rfl, hJx3⟩)
      · gi_wp2
        go_roundw
        case rel => exact ⟨k + 1, (j : Int) - 1, by omega, by have := HI.out; omega, by go_num, hJ3, hnx.trans hk3⟩
        case measure => simp [intOf]
      · gi_wp2
        refine bodyPost_ret (results_none rfl _ _ _) rfl ?_
        exact ⟨⟨_, rfl⟩, .inr ⟨_, ⟨k + 1, by omega, rfl⟩, hJx3⟩⟩
    · obtain rfl : k = l.length := by omega
      obtain rfl : i = -1 := by omega
      gi_wp2
      go_end0
      exact ⟨⟨_, rfl⟩, .inl hJs⟩

/-- **slices.Backward(s)**: the slice value is boxed; the function value captures the box. -/
theorem back_in (F : Fence) (n : Nat) (h5 : F.fn 53) (hro : F.round = none) (a : Option Addr) (len cap : Nat) (w : World) :
    CallsIn F n Tryd.prog 53 #[.slice a len cap] w fun e w' => e = .returned (.func (.func 76) #[] #[.pointer (some ⟨w.heap.size, 0, none⟩)]) ∧ w' = w.alloc (.cells #[.slice a len cap] 23) := by
  refine callsIn_of_wp Tryd.func53 rfl h5 ?_ hro
  simp only [Tryd.ntmps53, List.size_toArray, List.length_cons, List.length_nil, Nat.reduceAdd, Nat.reduceSub, Array.replicate_succ, Array.replicate_zero, List.push_toArray, List.append_toArray, List.nil_append, List.cons_append]
  gi_wp2
  go_ret
  exact ⟨rfl, rfl⟩

/-- slices.Backward(s) at a list that is not empty hands back a value that 'SeqStopsK', at 'Kp := KpB n₀ Bs'. -/
theorem back_stops (F : Fence) (n : Nat) (h8 : F.fn 76) (hro : F.round = none) (hn : 1 ≤ n) (Bs n₀ b cap off : Nat) (l : List Int) (hlen : l.length ≤ 9223372036854775807) (w : World) (hBs : Bs < w.heap.size) (hn₀ : n₀ ≤ w.heap.size)
    (hcell : w.cell? ⟨Bs, 0, none⟩ = some (.slice (some ⟨b, off, none⟩) l.length cap)) (hb : b < n₀) (hc : ∀ j, j < l.length → w.cell? ⟨b, off + j, none⟩ = some (.int .i64 (l.getD j 0))) :
    SeqStopsK F n Tryd.prog 76 #[.pointer (some ⟨Bs, 0, none⟩)] (fun x : Int × Int => #[.int .i64 x.1, .int .i64 x.2]) (KpB n₀ Bs) (fun ys => ys = backTo l l.length) (fun pre => ∃ k, k ≤ l.length ∧ pre = backTo l k) l.length w := fun r J Jx W hW _ _ hY h0 => by
  have hW' := hW.mono hn₀
  refine (back1_in F n h8 hro hn r Bs n₀ b cap off l hlen hb J Jx hY W ((hW.cell (p := ⟨Bs, 0, none⟩) hBs).trans hcell) (fun j hj => (hW'.cell (p := ⟨b, off + j, none⟩) hb).trans (hc j hj)) h0).mono ?_
  rintro e W' ⟨he, hj | ⟨pre, hk, hj⟩⟩
  · exact ⟨he, .inl ⟨_, rfl, hj⟩⟩
  · exact ⟨he, .inr ⟨_, hk, hj⟩⟩
/-- the mark that a range over a function leaves among the deferred calls -/
def markOf (D : Nat) : Deferred := { target := .collected D, args := #[] }
/-- behind the marks: below n₀ all lies as it lay, and every cell is what it was -/
def Marked (n₀ : Nat) (w w' : World) : Prop := Below n₀ w w' ∧ ∀ a v, w.cell? a = some v → w'.cell? a = some v
/-- a frame that leaves with marks alone: each is taken up; then it returns -/
theorem leaves_marks {F : Fence} {n : Nat} {P : Program} {fn : Func} {tmps : Array Value} {R : Ending → World → Prop} (w0 : World) : ∀ (Ds : List Nat) (w : World), Ds.Nodup → (∀ D, D ∈ Ds → w0.heap.size ≤ D ∧ w.heap[D]? = some (.deferred (some []))) →
    (∀ w', Marked w0.heap.size w w' → ∃ v, (results fn tmps).run P w' = .ok v w' ∧ R (.returned v) w') → LeavesInM F n P fn tmps R (Ds.map markOf) .returning w := by
  intro Ds
  induction Ds with
  | nil =>
    intro w _ _ h
    exact h w ⟨Below.refl _ _, fun _ _ h => h⟩
  | cons D Ds ih =>
    intro w hnd hall h
    obtain ⟨hD, hK⟩ := hall D (List.mem_cons_self ..)
    rw [List.nodup_cons] at hnd
    refine ⟨by simp, .inl ⟨D, _, rfl, run_takeDeferred hK, ih _ hnd.2 (fun D' hD' => ?_) (fun w' hw' => h w' ⟨?_, fun a v hv => ?_⟩)⟩⟩
    · obtain ⟨h1, h2⟩ := hall D' (List.mem_cons_of_mem _ hD')
      have hne : D' ≠ D := fun e => hnd.1 (e ▸ hD')
      exact ⟨h1, (World.putObj_heap_other hne).trans h2⟩
    · exact Below.trans (belowK_b (w := w0) (Nat.le_refl _) w D _ _ hD hK rfl rfl) hw'.1
    · exact hw'.2 a v (cell_kept hv (grownBy_putObj' w D (.deferred none)) (fun r e => by cases e; exact ⟨_, hK, rfl⟩))
theorem Ints.marked {n₀ : Nat} {w w' : World} {A : Option Addr} {l : List Int} (h : Ints w A l) (m : Marked n₀ w w') : Ints w' A l :=
  ⟨h.len, fun i hi => by
    obtain ⟨b, off, e, _, hc⟩ := h.at_ i hi
    have hc' := m.2 _ _ hc
    exact ⟨b, off, e, World.block_lt_of_cell? w' _ hc', hc'⟩⟩
end Go.Proofs.YtioekjkfhbopkaaDoor

/- Where states come by a tape, and by the last steps from the past: plain. No condition. -/
namespace Go.Proofs.YtioekjkfhbopkaaDoor
open Go Go.RowKit Go.Proofs.YtioekjkfhbopkaaDoorW.PrintWords

def stepR (r : List (List Int)) (k x : Int) : Int := (r.getD k.toNat []).getD x.toNat 0
/-- by the last step first -/
def comeTo (r : List (List Int)) (tape : List Int) (s : Int) : Int := tape.foldr (fun k x => stepR r k x) s
/-- right rules of n states -/
structure GoodRs (r : List (List Int)) (n : Nat) : Prop where
  len : r.length ≤ 16
  pos : 0 < r.length
  n16 : n ≤ 16
  n0 : 0 < n
  rows : ∀ j, j < r.length → (r.getD j []).length = n ∧ ∀ i, i < n → 0 ≤ (r.getD j []).getD i 0 ∧ (r.getD j []).getD i 0 < n
  first : (r.getD 0 []).length = n
theorem good_rules {r : List (List Int)} (h : rErr r = 0) : GoodRs r (r.getD 0 []).length := by
  unfold rErr at h
  by_cases h1 : 16 < r.length
  · rw [if_pos h1] at h; cases h
  rw [if_neg h1] at h
  cases h2 : r.any (fun f => decide (16 < f.length)) with
  | true => rw [h2, if_pos rfl] at h; cases h
  | false =>
    rw [h2, if_neg (by decide)] at h
    by_cases h3 : r.length = 0
    · rw [if_pos h3] at h; cases h
    rw [if_neg h3] at h
    cases h4 : r.all (goodR (r.getD 0 []).length) with
    | false => rw [h4, if_neg (by decide)] at h; cases h
    | true =>
      have hr : ∀ j, j < r.length → goodR (r.getD 0 []).length (r.getD j []) = true := fun j hj => by
        rw [List.all_eq_true] at h4
        rw [getDL_eq r j hj]
        exact h4 _ (List.getElem_mem hj)
      have g0 := goodR_of (hr 0 (by omega))
      have h16 : (r.getD 0 []).length ≤ 16 := by
        rw [List.any_eq_false] at h2
        have := h2 (r.getD 0 []) (by rw [getDL_eq r 0 (by omega)]; exact List.getElem_mem _)
        simpa using this
      refine ⟨by omega, by omega, h16, g0.2.1, fun j hj => ?_, rfl⟩
      obtain ⟨a, b, c⟩ := goodR_of (hr j hj)
      exact ⟨a, fun i hi => by have := c i (by omega); rw [a] at this; exact this⟩
/-- a right tape -/
def goodT (r : List (List Int)) (tape : List Int) : Prop := ∀ i, i < tape.length → 0 ≤ tape.getD i 0 ∧ tape.getD i 0 < r.length
theorem goodT.take {r : List (List Int)} {tape : List Int} (h : goodT r tape) (n : Nat) : goodT r (tape.take n) := fun i hi => by
  rw [List.length_take] at hi
  have := h i (by omega)
  rw [List.getD_eq_getElem?_getD, List.getElem?_take_of_lt (by omega), ← List.getD_eq_getElem?_getD]
  exact this
theorem stepR_range {r : List (List Int)} {n : Nat} (h : GoodRs r n) {k x : Int} (hk : 0 ≤ k ∧ k < r.length) (hx : 0 ≤ x ∧ x < n) : 0 ≤ stepR r k x ∧ stepR r k x < n :=
  (h.rows k.toNat (by omega)).2 x.toNat (by omega)
theorem comeTo_cons (r : List (List Int)) (k : Int) (tape : List Int) (s : Int) : comeTo r (k :: tape) s = stepR r k (comeTo r tape s) := rfl
theorem comeTo_range {r : List (List Int)} {n : Nat} (h : GoodRs r n) {tape : List Int} (ht : goodT r tape) {s : Int} (hs : 0 ≤ s ∧ s < n) : 0 ≤ comeTo r tape s ∧ comeTo r tape s < n := by
  induction tape with
  | nil => exact hs
  | cons k l ih =>
    rw [comeTo_cons]
    have h0 := ht 0 (by simp)
    exact stepR_range h (by simpa using h0) (ih (fun i hi => by have := ht (i + 1) (by simpa using hi); simpa using this))
/-- what has come to, as slices.Backward hands the steps out -/
def accE (r : List (List Int)) (s : Int) (pre : List (Int × Int)) : Int := pre.foldl (fun x q => stepR r q.2 x) s
theorem accE_snoc (r : List (List Int)) (s : Int) (pre : List (Int × Int)) (q : Int × Int) : accE r s (pre ++ [q]) = stepR r q.2 (accE r s pre) := by
  unfold accE
  rw [List.foldl_append]
  rfl
theorem accE_to (r : List (List Int)) (s : Int) (l : List Int) : ∀ k, k ≤ l.length → accE r s (backTo l k) = comeTo r (l.drop (l.length - k)) s := by
  intro k
  induction k with
  | zero => intro _; simp [accE, backTo, comeTo]
  | succ k ih =>
    intro hk
    have hil : l.length - (k + 1) < l.length := by omega
    have ed : l.drop (l.length - (k + 1)) = l.getD (l.length - (k + 1)) 0 :: l.drop (l.length - k) := by
      rw [List.drop_eq_getElem_cons hil, getD_eq l _ 0 hil, show l.length - (k + 1) + 1 = l.length - k by omega]
    have e2 : (backAt l k).2 = l.getD (l.length - (k + 1)) 0 := by
      unfold backAt
      rw [show l.length - 1 - k = l.length - (k + 1) by omega]
    rw [backTo_succ, accE_snoc, ih (by omega), ed, e2, comeTo_cons]
theorem accE_all (r : List (List Int)) (s : Int) (l : List Int) : accE r s (backTo l l.length) = comeTo r l s := by
  rw [accE_to r s l l.length (Nat.le_refl _), Nat.sub_self, List.drop_zero]
/-- the numbers that come are those of the list -/
theorem backAt_mem (l : List Int) (k : Nat) (hk : k < l.length) : (backAt l k).2 = l.getD (l.length - 1 - k) 0 ∧ l.length - 1 - k < l.length := ⟨rfl, by omega⟩
theorem accE_range {r : List (List Int)} {n : Nat} (h : GoodRs r n) {l : List Int} (ht : goodT r l) {s : Int} (hs : 0 ≤ s ∧ s < n) {k : Nat} (hk : k ≤ l.length) : 0 ≤ accE r s (backTo l k) ∧ accE r s (backTo l k) < n := by
  rw [accE_to r s l k hk]
  refine comeTo_range h (fun i hi => ?_) hs
  rw [List.length_drop] at hi
  have := ht (l.length - k + i) (by omega)
  rw [List.getD_eq_getElem?_getD, List.getElem?_drop, ← List.getD_eq_getElem?_getD]
  exact this
/-- what has come to, the rounds by number -/
def accN (r : List (List Int)) (s : Int) (l : List Int) (pre : List Nat) : Int := pre.foldl (fun x k => stepR r (backAt l k).2 x) s
theorem accN_snoc (r : List (List Int)) (s : Int) (l : List Int) (pre : List Nat) (k : Nat) : accN r s l (pre ++ [k]) = stepR r (backAt l k).2 (accN r s l pre) := by
  unfold accN
  rw [List.foldl_append]
  rfl
theorem accN_all (r : List (List Int)) (s : Int) (l : List Int) : accN r s l (List.range l.length) = comeTo r l s := by
  rw [← accE_all r s l]
  unfold accE backTo accN
  rw [List.foldl_map]
theorem back_good {r : List (List Int)} {l : List Int} (ht : goodT r l) (h0 : 0 < l.length) (k : Nat) : 0 ≤ (backAt l k).2 ∧ (backAt l k).2 < r.length := ht (l.length - 1 - k) (by omega)
theorem accN_range {r : List (List Int)} {n : Nat} (h : GoodRs r n) {l : List Int} (ht : goodT r l) (h0 : 0 < l.length) {s : Int} (hs : 0 ≤ s ∧ s < n) (pre : List Nat) : 0 ≤ accN r s l pre ∧ accN r s l pre < n := by
  induction pre generalizing s with
  | nil => exact hs
  | cons k pre ih => exact ih (stepR_range h (back_good ht h0 k) hs)
/-- by the last steps, n of them, then twice as many: the state, how many; fuel first -/
def pastF (r : List (List Int)) (m : Nat) (tape : List Int) : Nat → Nat → Int × Int × Bool
  | 0, _ => (0, 0, false)
  | f + 1, n => if n ≤ tape.length then (if comeTo r (tape.take n) 0 = comeTo r (tape.take n) ((m : Int) - 1) then (comeTo r (tape.take n) 0, (n : Int), true) else pastF r m tape f (n * 2)) else (0, 0, false)
theorem pastF_end (r : List (List Int)) (m : Nat) (tape : List Int) (f n : Nat) (h : tape.length < n) : pastF r m tape f n = (0, 0, false) := by
  cases f with
  | zero => rfl
  | succ f => rw [pastF, if_neg (by omega)]
/-- fuel that is enough is enough -/
theorem pastF_fuel (r : List (List Int)) (m : Nat) (tape : List Int) : ∀ (f n g : Nat), 0 < n → tape.length + 1 - n ≤ f → tape.length + 1 - n ≤ g → pastF r m tape f n = pastF r m tape g n := by
  intro f
  induction f with
  | zero => intro n g hn h1 h2; rw [pastF_end r m tape 0 n (by omega), pastF_end r m tape g n (by omega)]
  | succ f ih =>
    intro n g hn h1 h2
    by_cases hl : n ≤ tape.length
    · obtain ⟨g, rfl⟩ : ∃ m, g = m + 1 := ⟨g - 1, by omega⟩
      rw [pastF, pastF, if_pos hl, if_pos hl, ih (n * 2) g (by omega) (by omega) (by omega)]
    · rw [pastF_end r m tape _ n (by omega), pastF_end r m tape g n (by omega)]
def pastR (r : List (List Int)) (m : Nat) (tape : List Int) : Int × Int × Bool := pastF r m tape (tape.length + 1) 1
theorem pastF_step (r : List (List Int)) (m : Nat) (tape : List Int) (n : Nat) (hn : 0 < n) (hl : n ≤ tape.length) :
    pastF r m tape (tape.length + 1 - n) n = if comeTo r (tape.take n) 0 = comeTo r (tape.take n) ((m : Int) - 1) then (comeTo r (tape.take n) 0, (n : Int), true) else pastF r m tape (tape.length + 1 - n * 2) (n * 2) := by
  obtain ⟨g, hg⟩ : ∃ g, tape.length + 1 - n = g + 1 := ⟨tape.length - n, by omega⟩
  rw [hg, pastF, if_pos hl, pastF_fuel r m tape g (n * 2) (tape.length + 1 - n * 2) (by omega) (by omega) (Nat.le_refl _)]
/-- what is found is found within the tape, and no sooner in a tape that begins so -/
theorem pastF_found {r : List (List Int)} {m : Nat} {tape : List Int} : ∀ {f n : Nat} {s k : Int}, 0 < n → pastF r m tape f n = (s, k, true) → ∃ j : Nat, k = (j : Int) ∧ n ≤ j ∧ j ≤ tape.length ∧ ∀ (other : List Int), other.take j = tape.take j → j ≤ other.length → ∀ g, other.length + 1 - n ≤ g → pastF r m other g n = (s, k, true)
  | 0, n, s, k, hn, h => by rw [pastF] at h; cases h
  | f + 1, n, s, k, hn, h => by
    rw [pastF] at h
    by_cases hl : n ≤ tape.length
    · rw [if_pos hl] at h
      by_cases hc : comeTo r (tape.take n) 0 = comeTo r (tape.take n) ((m : Int) - 1)
      · rw [if_pos hc] at h
        injection h with h1 h2
        injection h2 with h2 _
        refine ⟨n, h2.symm, Nat.le_refl _, hl, fun other ho hol g hg => ?_⟩
        obtain ⟨g, rfl⟩ : ∃ q, g = q + 1 := ⟨g - 1, by omega⟩
        rw [pastF, if_pos hol, ho, if_pos hc, ← h1, ← h2]
      · rw [if_neg hc] at h
        obtain ⟨j, e, h1, h2, h3⟩ := pastF_found (by omega) h
        refine ⟨j, e, by omega, h2, fun other ho hol g hg => ?_⟩
        obtain ⟨g, rfl⟩ : ∃ q, g = q + 1 := ⟨g - 1, by omega⟩
        have hn2 : other.take n = tape.take n := by
          have h5 := congrArg (List.take n) ho
          rw [List.take_take, List.take_take, Nat.min_eq_left (by omega)] at h5
          exact h5
        rw [pastF, if_pos (by omega), hn2, if_neg hc]
        exact h3 other ho hol g (by omega)
    · rw [if_neg hl] at h; cases h
theorem pastF_none {r : List (List Int)} {m : Nat} {tape : List Int} : ∀ {f n : Nat} {s k : Int}, pastF r m tape f n = (s, k, false) → s = 0 ∧ k = 0
  | 0, n, s, k, h => by rw [pastF] at h; cases h; exact ⟨rfl, rfl⟩
  | f + 1, n, s, k, h => by
    rw [pastF] at h
    by_cases hl : n ≤ tape.length
    · rw [if_pos hl] at h
      by_cases hc : comeTo r (tape.take n) 0 = comeTo r (tape.take n) ((m : Int) - 1)
      · rw [if_pos hc] at h; cases h
      · rw [if_neg hc] at h
        exact pastF_none h
    · rw [if_neg hl] at h; cases h; exact ⟨rfl, rfl⟩
end Go.Proofs.YtioekjkfhbopkaaDoor
