/- Words, plain laws and walks behind the law OrderAbove, part 1. No condition. -/
import Derived.Shelf.Small.Bits
import Derived.Shelf.Small.Wraps
import Derived.Shelf.Strconv.Itoa0
import Derived.Shelf.Sort.Plain
import Derived.Shelf.Slices.Turned
import Derived.Shelf.Slices.Reverse
import Derived.Ground.Names2Prog
import Derived.Shelf.Slices.Clone
import Derived.Shelf.Slices.SearchI
import Derived.Shelf.Slices.Cells
import Derived.Shelf.Slices.In.SortNone
import Derived.Ground.SlgnProg
import Derived.Shelf.SlicesE.Reverse
import Derived.Shelf.SlicesE.Clone
import Derived.Test.YtcnecmcbjpehcaaDoorProg
import Derived.WalkKit
import Derived.WalkSpells
import Derived.WalkLawsBesides
import Derived.BigQuiet
import Derived.Deep.QuietTactic
import Derived.Deep.OwnRows
import Derived.OwnWalk
import Derived.Laws.MakeOwn
import Derived.Laws.OwnMore
import Derived.Deep.LoopGhost
import Derived.Maps.AppendAt
import Derived.Deep.AppendLies
import Derived.RegionTactic
import Derived.Deep.Draws
import Derived.Test.YtcnecmcbjpehcaaDoorPOrderAbovex9
import Derived.Test.YtcnecmcbjpehcaaDoorPOrderAbovex1
import Derived.Lib.OwnBridge
import Derived.Lib.AppendIntMem
import Derived.Test.YtcnecmcbjpehcaaDoorWWords
import Derived.Test.YtcnecmcbjpehcaaDoorWApart

/-
  DERIVED: THE SHELF's CONTRACTS AT THIS DUMP, IN PLAIN WORDS (tools/lay-plain.mjs out of 'TrydoShelf.lean', which tools/lay-shelf.mjs wrote): THE SAME DECLARATIONS UNDER THE SAME NAMES: 'import', 'namespace', 'open', 'def', 'theorem' AND NOTHING ELSE: no command of the shelf's: FOR A HAND-IN. Each laying: the table of numbers ('.._ren') and one theorem, a field a fact of the dump's own or the kernel's comparison; each contract: ONE APPLICATION.
-/
namespace Go.Proofs
open Go.Shelf
def Tryd.lays128_ren : Go.Shelf.Ren := ⟨fun | 128 => 90 | n => n, fun | 51 => 144 | 3 => 3 | 4 => 4 | 46 => 115 | 5 => 5 | 9 => 9 | n => n, fun | n => n⟩
theorem Tryd.lays128 : Go.Proofs.Lays.n128 Tryd.prog Tryd.lays128_ren := {
  mixed := by kernel_rfl
  f128 := Tryd.func90.trans (congrArg some (by kernel_rfl))
  t3 := Tryd.underlying3
  a3 := Tryd.isAgg3
  z3 := Tryd.sizeOf3
  v3 := Tryd.zeroValue3
  t4 := Tryd.underlying4
  a4 := Tryd.isAgg4
  z4 := Tryd.sizeOf4
  v4 := Tryd.zeroValue4
  t5 := Tryd.underlying5
  a5 := Tryd.isAgg5
  z5 := Tryd.sizeOf5
  v5 := Tryd.zeroValue5
  t9 := Tryd.underlying9
  a9 := Tryd.isAgg9
  z9 := Tryd.sizeOf9
  v9 := Tryd.zeroValue9
  t46 := Tryd.underlying115
  a46 := Tryd.isAgg115
  z46 := Tryd.sizeOf115
  v46 := Tryd.zeroValue115
  t51 := Tryd.underlying144
  a51 := Tryd.isAgg144
  z51 := Tryd.sizeOf144
  v51 := Tryd.zeroValue144 }
/-- bits.Len32: "Len32 returns the minimum number of bits required to represent x; the result is 0 for x == 0.": IT RETURNS 'Lib.bitLen x'; the world is as it was. ('h0', 'h1': x is a uint32.) (LAID: no walk: one application.) -/
theorem Tryd.bits_Len32 (x : Int) (w : World) (h0 : 0 ≤ x) (h1 : x ≤ 4294967295) :
    Calls Tryd.prog 90 #[.int .u32 x] w fun e w' => e = .returned (.int .i64 (Lib.bitLen x.toNat)) ∧ w' = w := Any.bits_Len32 Tryd.lays128 x w h0 h1
def Tryd.lays125_ren : Go.Shelf.Ren := ⟨fun | 125 => 75 | 128 => 90 | 129 => 91 | n => n, fun | 46 => 115 | 3 => 3 | 51 => 144 | 53 => 146 | 4 => 4 | 5 => 5 | 9 => 9 | n => n, fun | n => n⟩
theorem Tryd.lays125 : Go.Proofs.Lays.n125 Tryd.prog Tryd.lays125_ren := {
  mixed := by kernel_rfl
  f125 := Tryd.func75.trans (congrArg some (by kernel_rfl))
  f128 := Tryd.func90.trans (congrArg some (by kernel_rfl))
  f129 := Tryd.func91.trans (congrArg some (by kernel_rfl))
  t3 := Tryd.underlying3
  a3 := Tryd.isAgg3
  z3 := Tryd.sizeOf3
  v3 := Tryd.zeroValue3
  t4 := Tryd.underlying4
  a4 := Tryd.isAgg4
  z4 := Tryd.sizeOf4
  v4 := Tryd.zeroValue4
  t5 := Tryd.underlying5
  a5 := Tryd.isAgg5
  z5 := Tryd.sizeOf5
  v5 := Tryd.zeroValue5
  t9 := Tryd.underlying9
  a9 := Tryd.isAgg9
  z9 := Tryd.sizeOf9
  v9 := Tryd.zeroValue9
  t46 := Tryd.underlying115
  a46 := Tryd.isAgg115
  z46 := Tryd.sizeOf115
  v46 := Tryd.zeroValue115
  t51 := Tryd.underlying144
  a51 := Tryd.isAgg144
  z51 := Tryd.sizeOf144
  v51 := Tryd.zeroValue144
  t53 := Tryd.underlying146
  a53 := Tryd.isAgg146
  z53 := Tryd.sizeOf146
  v53 := Tryd.zeroValue146 }
/-- bits.Len: "Len returns the minimum number of bits required to represent x; the result is 0 for x == 0.": IT RETURNS 'Lib.bitLen x'; the world is as it was. (A uint has 64 bits in the model.) ITS CALLEE bits.Len64 IS MET BY ITS OWN CONTRACT OFF THE SHELF (lay that first). (LAID: no walk: one application.) -/
theorem Tryd.bits_Len (x : Int) (w : World) (h0 : 0 ≤ x) (h1 : x ≤ 18446744073709551615) :
    Calls Tryd.prog 75 #[.int .u64 x] w fun e w' => e = .returned (.int .i64 (Lib.bitLen x.toNat)) ∧ w' = w := Any.bits_Len Tryd.lays125 x w h0 h1
def Tryd.lays215_ren : Go.Shelf.Ren := ⟨fun | 215 => 98 | n => n, fun | 3 => 3 | 4 => 4 | n => n, fun | n => n⟩
theorem Tryd.lays215 : Go.Proofs.Lays.n215 Tryd.prog Tryd.lays215_ren := {
  mixed := by kernel_rfl
  f215 := Tryd.func98.trans (congrArg some (by kernel_rfl))
  t3 := Tryd.underlying3
  a3 := Tryd.isAgg3
  z3 := Tryd.sizeOf3
  v3 := Tryd.zeroValue3
  t4 := Tryd.underlying4
  a4 := Tryd.isAgg4
  z4 := Tryd.sizeOf4
  v4 := Tryd.zeroValue4 }
open Go.RowKit in
/-- cmp.isNaN at int: 'x != x': false. (LAID: no walk: one application.) -/
theorem Tryd.cmp_isNaN_int (x : Int) (w : World) :
    Calls Tryd.prog 98 #[.int .i64 x] w fun e w' => e = .returned (.bool false) ∧ w' = w := Any.cmp_isNaN_int Tryd.lays215 x w
def Tryd.lays129_ren : Go.Shelf.Ren := ⟨fun | 129 => 91 | n => n, fun | 53 => 146 | 3 => 3 | 4 => 4 | 46 => 115 | 5 => 5 | 9 => 9 | n => n, fun | n => n⟩
theorem Tryd.lays129 : Go.Proofs.Lays.n129 Tryd.prog Tryd.lays129_ren := {
  mixed := by kernel_rfl
  f129 := Tryd.func91.trans (congrArg some (by kernel_rfl))
  t3 := Tryd.underlying3
  a3 := Tryd.isAgg3
  z3 := Tryd.sizeOf3
  v3 := Tryd.zeroValue3
  t4 := Tryd.underlying4
  a4 := Tryd.isAgg4
  z4 := Tryd.sizeOf4
  v4 := Tryd.zeroValue4
  t5 := Tryd.underlying5
  a5 := Tryd.isAgg5
  z5 := Tryd.sizeOf5
  v5 := Tryd.zeroValue5
  t9 := Tryd.underlying9
  a9 := Tryd.isAgg9
  z9 := Tryd.sizeOf9
  v9 := Tryd.zeroValue9
  t46 := Tryd.underlying115
  a46 := Tryd.isAgg115
  z46 := Tryd.sizeOf115
  v46 := Tryd.zeroValue115
  t53 := Tryd.underlying146
  a53 := Tryd.isAgg146
  z53 := Tryd.sizeOf146
  v53 := Tryd.zeroValue146 }
/-- bits.Len64: "Len64 returns the minimum number of bits required to represent x; the result is 0 for x == 0.": IT RETURNS 'Lib.bitLen x'; the world is as it was. ('h0', 'h1': x is a uint64.) (LAID: no walk: one application.) -/
theorem Tryd.bits_Len64 (x : Int) (w : World) (h0 : 0 ≤ x) (h1 : x ≤ 18446744073709551615) :
    Calls Tryd.prog 91 #[.int .u64 x] w fun e w' => e = .returned (.int .i64 (Lib.bitLen x.toNat)) ∧ w' = w := Any.bits_Len64 Tryd.lays129 x w h0 h1
def Tryd.lays189_ren : Go.Shelf.Ren := ⟨fun | 189 => 59 | 125 => 75 | 257 => 74 | 128 => 90 | 129 => 91 | 294 => 81 | 295 => 82 | 296 => 83 | 297 => 84 | 298 => 85 | 299 => 86 | 216 => 87 | 300 => 88 | 301 => 89 | 328 => 93 | 329 => 94 | 330 => 95 | 331 => 96 | 332 => 97 | 215 => 98 | 343 => 100 | n => n, fun | 28 => 25 | 3 => 3 | 46 => 115 | 0 => 0 | 51 => 144 | 53 => 146 | 4 => 4 | 183 => 136 | 182 => 135 | 131 => 141 | 5 => 5 | 9 => 9 | 218 => 147 | 222 => 151 | 228 => 153 | 229 => 73 | n => n, fun | n => n⟩
theorem Tryd.lays189 : Go.Proofs.Lays.n189 Tryd.prog Tryd.lays189_ren := {
  mixed := by kernel_rfl
  f125 := Tryd.func75.trans (congrArg some (by kernel_rfl))
  f128 := Tryd.func90.trans (congrArg some (by kernel_rfl))
  f129 := Tryd.func91.trans (congrArg some (by kernel_rfl))
  f189 := Tryd.func59.trans (congrArg some (by kernel_rfl))
  f215 := Tryd.func98.trans (congrArg some (by kernel_rfl))
  f216 := Tryd.func87.trans (congrArg some (by kernel_rfl))
  f257 := Tryd.func74.trans (congrArg some (by kernel_rfl))
  f294 := Tryd.func81.trans (congrArg some (by kernel_rfl))
  f295 := Tryd.func82.trans (congrArg some (by kernel_rfl))
  f296 := Tryd.func83.trans (congrArg some (by kernel_rfl))
  f297 := Tryd.func84.trans (congrArg some (by kernel_rfl))
  f298 := Tryd.func85.trans (congrArg some (by kernel_rfl))
  f299 := Tryd.func86.trans (congrArg some (by kernel_rfl))
  f300 := Tryd.func88.trans (congrArg some (by kernel_rfl))
  f301 := Tryd.func89.trans (congrArg some (by kernel_rfl))
  f328 := Tryd.func93.trans (congrArg some (by kernel_rfl))
  f329 := Tryd.func94.trans (congrArg some (by kernel_rfl))
  f330 := Tryd.func95.trans (congrArg some (by kernel_rfl))
  f331 := Tryd.func96.trans (congrArg some (by kernel_rfl))
  f332 := Tryd.func97.trans (congrArg some (by kernel_rfl))
  f343 := Tryd.func100.trans (congrArg some (by kernel_rfl))
  t0 := Tryd.underlying0
  a0 := Tryd.isAgg0
  z0 := Tryd.sizeOf0
  v0 := Tryd.zeroValue0
  t3 := Tryd.underlying3
  a3 := Tryd.isAgg3
  z3 := Tryd.sizeOf3
  v3 := Tryd.zeroValue3
  t4 := Tryd.underlying4
  a4 := Tryd.isAgg4
  z4 := Tryd.sizeOf4
  v4 := Tryd.zeroValue4
  t5 := Tryd.underlying5
  a5 := Tryd.isAgg5
  z5 := Tryd.sizeOf5
  v5 := Tryd.zeroValue5
  t9 := Tryd.underlying9
  a9 := Tryd.isAgg9
  z9 := Tryd.sizeOf9
  v9 := Tryd.zeroValue9
  t28 := Tryd.underlying25
  a28 := Tryd.isAgg25
  z28 := Tryd.sizeOf25
  v28 := Tryd.zeroValue25
  t46 := Tryd.underlying115
  a46 := Tryd.isAgg115
  z46 := Tryd.sizeOf115
  v46 := Tryd.zeroValue115
  t51 := Tryd.underlying144
  a51 := Tryd.isAgg144
  z51 := Tryd.sizeOf144
  v51 := Tryd.zeroValue144
  t53 := Tryd.underlying146
  a53 := Tryd.isAgg146
  z53 := Tryd.sizeOf146
  v53 := Tryd.zeroValue146
  t131 := Tryd.underlying141
  a131 := Tryd.isAgg141
  z131 := Tryd.sizeOf141
  v131 := Tryd.zeroValue141
  t182 := Tryd.underlying135
  a182 := Tryd.isAgg135
  z182 := Tryd.sizeOf135
  v182 := Tryd.zeroValue135
  t183 := Tryd.underlying136
  a183 := Tryd.isAgg136
  z183 := Tryd.sizeOf136
  v183 := Tryd.zeroValue136
  t218 := Tryd.underlying147
  a218 := Tryd.isAgg147
  z218 := Tryd.sizeOf147
  v218 := Tryd.zeroValue147
  t222 := Tryd.underlying151
  a222 := Tryd.isAgg151
  z222 := Tryd.sizeOf151
  v222 := Tryd.zeroValue151
  t228 := Tryd.underlying153
  a228 := Tryd.isAgg153
  z228 := Tryd.sizeOf153
  v228 := Tryd.zeroValue153
  t229 := Tryd.underlying73
  a229 := Tryd.isAgg73
  z229 := Tryd.sizeOf73
  v229 := Tryd.zeroValue73 }
open Go.Sort Go.RowKit in
theorem Tryd.slices_Sort_int (blk off cap : Nat) (zs : List Int) (w : World) (hH : Holds (Value.int .i64) w blk off zs.toArray) (hblk : blk < w.heap.size) (hsz : zs.length < 4611686018427387904) :
    Calls Tryd.prog 59 #[.slice (some ⟨blk, off, none⟩) zs.length cap] w fun e w' =>
      e = .returned (.tuple #[]) ∧ ∃ n os, w' = grow (putRow (Value.int .i64) (Sort.ahead w n) blk off (zs.mergeSort fun x y => decide (x ≤ y)).toArray) os := Any.slices_Sort_int Tryd.lays189 blk off cap zs w hH hblk hsz
def Tryd.lays108_ren : Go.Shelf.Ren := ⟨fun | 108 => 66 | n => n, fun | 28 => 25 | 3 => 3 | 0 => 0 | 4 => 4 | n => n, fun | n => n⟩
theorem Tryd.lays108 : Go.Proofs.Lays.n108 Tryd.prog Tryd.lays108_ren := {
  mixed := by kernel_rfl
  f108 := Tryd.func66.trans (congrArg some (by kernel_rfl))
  t0 := Tryd.underlying0
  a0 := Tryd.isAgg0
  z0 := Tryd.sizeOf0
  v0 := Tryd.zeroValue0
  t3 := Tryd.underlying3
  a3 := Tryd.isAgg3
  z3 := Tryd.sizeOf3
  v3 := Tryd.zeroValue3
  t4 := Tryd.underlying4
  a4 := Tryd.isAgg4
  z4 := Tryd.sizeOf4
  v4 := Tryd.zeroValue4
  t28 := Tryd.underlying25
  a28 := Tryd.isAgg25
  z28 := Tryd.sizeOf25
  v28 := Tryd.zeroValue25 }
open Go.Lib in
/-- slices.Index at []int: "Index returns the index of the first occurrence of v in s, or -1 if not present.": IT RETURNS 'Lib.idxOf (the elements) v'; the world is as it was. 'zs': what the cells behind the slice's address hold (its spare capacity too, if you have it); 'zs.take n': its elements. (LAID: no walk: one application.) -/
theorem Tryd.slices_Index_int (b off n c : Nat) (zs : List Int) (x : Int) (w : World) (hz : n ≤ zs.length) (hbig : n ≤ 9223372036854775807) (hc : ∀ j, j < zs.length → w.cell? ⟨b, off + j, none⟩ = some (.int .i64 (zs.getD j 0))) :
    Calls Tryd.prog 66 #[.slice (some ⟨b, off, none⟩) n c, .int .i64 x] w fun e w' => e = .returned (.int .i64 (Lib.idxOf (zs.take n) x)) ∧ w' = w := Any.slices_Index_int Tryd.lays108 b off n c zs x w hz hbig hc
open Go.Lib in
/-- The same at a slice of length 0, a nil one too: no cell is known, none is asked for. (LAID: no walk: one application.) -/
theorem Tryd.slices_Index_int_empty (a : Option Addr) (c : Nat) (x : Int) (w : World) :
    Calls Tryd.prog 66 #[.slice a 0 c, .int .i64 x] w fun e w' => e = .returned (.int .i64 (Lib.idxOf [] x)) ∧ w' = w := Any.slices_Index_int_empty Tryd.lays108 a c x w
def Tryd.lays107_ren : Go.Shelf.Ren := ⟨fun | 107 => 53 | 108 => 66 | n => n, fun | 28 => 25 | 3 => 3 | 4 => 4 | 0 => 0 | n => n, fun | n => n⟩
theorem Tryd.lays107 : Go.Proofs.Lays.n107 Tryd.prog Tryd.lays107_ren := {
  mixed := by kernel_rfl
  f107 := Tryd.func53.trans (congrArg some (by kernel_rfl))
  f108 := Tryd.func66.trans (congrArg some (by kernel_rfl))
  t0 := Tryd.underlying0
  a0 := Tryd.isAgg0
  z0 := Tryd.sizeOf0
  v0 := Tryd.zeroValue0
  t3 := Tryd.underlying3
  a3 := Tryd.isAgg3
  z3 := Tryd.sizeOf3
  v3 := Tryd.zeroValue3
  t4 := Tryd.underlying4
  a4 := Tryd.isAgg4
  z4 := Tryd.sizeOf4
  v4 := Tryd.zeroValue4
  t28 := Tryd.underlying25
  a28 := Tryd.isAgg25
  z28 := Tryd.sizeOf25
  v28 := Tryd.zeroValue25 }
open Go.Lib in
/-- slices.Contains at []int: "Contains reports whether v is present in s.": IT RETURNS 'elements.contains v'; the world is as it was. ITS CALLEE slices.Index IS MET BY ITS OWN CONTRACT OFF THE SHELF (lay that first): no loop is walked here. (LAID: no walk: one application.) -/
theorem Tryd.slices_Contains_int (b off n c : Nat) (zs : List Int) (x : Int) (w : World) (hz : n ≤ zs.length) (hbig : n ≤ 9223372036854775807) (hc : ∀ j, j < zs.length → w.cell? ⟨b, off + j, none⟩ = some (.int .i64 (zs.getD j 0))) :
    Calls Tryd.prog 53 #[.slice (some ⟨b, off, none⟩) n c, .int .i64 x] w fun e w' => e = .returned (.bool ((zs.take n).contains x)) ∧ w' = w := Any.slices_Contains_int Tryd.lays107 b off n c zs x w hz hbig hc
open Go.Lib in
/-- The same at a slice of length 0, a nil one too. (LAID: no walk: one application.) -/
theorem Tryd.slices_Contains_int_empty (a : Option Addr) (c : Nat) (x : Int) (w : World) :
    Calls Tryd.prog 53 #[.slice a 0 c, .int .i64 x] w fun e w' => e = .returned (.bool false) ∧ w' = w := Any.slices_Contains_int_empty Tryd.lays107 a c x w
def Tryd.lays112_ren : Go.Shelf.Ren := ⟨fun | 112 => 60 | n => n, fun | 28 => 25 | 3 => 3 | 4 => 4 | 0 => 0 | n => n, fun | n => n⟩
theorem Tryd.lays112 : Go.Proofs.Lays.n112 Tryd.prog Tryd.lays112_ren := {
  mixed := by kernel_rfl
  f112 := Tryd.func60.trans (congrArg some (by kernel_rfl))
  t0 := Tryd.underlying0
  a0 := Tryd.isAgg0
  z0 := Tryd.sizeOf0
  v0 := Tryd.zeroValue0
  t3 := Tryd.underlying3
  a3 := Tryd.isAgg3
  z3 := Tryd.sizeOf3
  v3 := Tryd.zeroValue3
  t4 := Tryd.underlying4
  a4 := Tryd.isAgg4
  z4 := Tryd.sizeOf4
  v4 := Tryd.zeroValue4
  t28 := Tryd.underlying25
  a28 := Tryd.isAgg25
  z28 := Tryd.sizeOf25
  v28 := Tryd.zeroValue25 }
open Go.RowKit Go.Lib Go.Sort in
/-- slices.Reverse at []int, over an array: Go's loop from the two ends inward is walked; it makes 'Sort.reverseLoop 0 (len - 1)', which is 'Array.reverse' (Derived/Lib/SlicesMore.lean). (LAID: no walk: one application.) -/
theorem Tryd.slices_Reverse_int_arr (blk off cap : Nat) (d : Array Int) (w : World) (hH : Holds encI w blk off d) (hsz : d.size ≤ 9223372036854775807) :
    Calls Tryd.prog 60 #[.slice (some ⟨blk, off, none⟩) d.size cap] w fun e w' => e = .returned (.tuple #[]) ∧ ∃ n, w' = putRow encI (Sort.ahead w n) blk off d.reverse := Any.slices_Reverse_int_arr Tryd.lays112 blk off cap d w hH hsz
open Go.RowKit Go.Lib Go.Sort in
/-- slices.Reverse at []int: "Reverse reverses the elements of the slice in place.": THE SLICE's CELLS HOLD 'zs.reverse' BEHIND THE CALL; all else is as it was, but for the count of draws (the exchange 's[i], s[j] = s[j], s[i]' draws its order, once a round). IN THE WORDS OF slices.Sort's CONTRACT: 'Holds': the cells hold zs and none is frozen; 'putRow': the world with those cells holding another array. A slice of length 0 that is not nil is among them ('zs = []'); nil: '.._nil'. (LAID: no walk: one application.) -/
theorem Tryd.slices_Reverse_int (blk off cap : Nat) (zs : List Int) (w : World) (hH : Holds (Value.int .i64) w blk off zs.toArray) (hsz : zs.length ≤ 9223372036854775807) :
    Calls Tryd.prog 60 #[.slice (some ⟨blk, off, none⟩) zs.length cap] w fun e w' => e = .returned (.tuple #[]) ∧ ∃ n, w' = putRow (Value.int .i64) (Sort.ahead w n) blk off zs.reverse.toArray := Any.slices_Reverse_int Tryd.lays112 blk off cap zs w hH hsz
open Go.RowKit Go.Lib Go.Sort in
/-- The same at a slice of length 0, a nil one too: nothing is read, nothing written, nothing drawn. (LAID: no walk: one application.) -/
theorem Tryd.slices_Reverse_int_empty (a : Option Addr) (cap : Nat) (w : World) :
    Calls Tryd.prog 60 #[.slice a 0 cap] w fun e w' => e = .returned (.tuple #[]) ∧ w' = w := Any.slices_Reverse_int_empty Tryd.lays112 a cap w
def Tryd.laysNm215_ren : Go.Shelf.Ren := ⟨fun | 15 => 40 | n => n, fun | 22 => 25 | 3 => 3 | 4 => 4 | n => n, fun | n => n⟩
theorem Tryd.laysNm215 : Go.Proofs.Lays2.n15 Tryd.prog Tryd.laysNm215_ren := {
  mixed := by kernel_rfl
  f15 := Tryd.func40.trans (congrArg some (by kernel_rfl))
  t3 := Tryd.underlying3
  a3 := Tryd.isAgg3
  z3 := Tryd.sizeOf3
  v3 := Tryd.zeroValue3
  t4 := Tryd.underlying4
  a4 := Tryd.isAgg4
  z4 := Tryd.sizeOf4
  v4 := Tryd.zeroValue4
  t22 := Tryd.underlying25
  a22 := Tryd.isAgg25
  z22 := Tryd.sizeOf25
  v22 := Tryd.zeroValue25
  i3 := by kernel_rfl }
open Go.RowKit Go.Lib in
/-- slices.Clone at []int: "Clone returns a copy of the slice. The elements are copied using assignment, so this is a shallow clone. The result may have additional unused capacity. The result preserves the nilness of s.": OF A SLICE THAT IS NOT nil IT RETURNS A SLICE THAT IS NOT nil, OF THE SAME ELEMENTS, IN MEMORY OF THE CALL's OWN: in the how-to's words (6f): 'w'.ownsRow B e 1 v' n cells': v' begins at the head of a row among the blocks from B on (B: the heap's size at the call), not frozen, whose first cells are the elements · 'Below B w w'': below B all is as it was. The capacity is whatever the run-time gives. 'zs': what the cells behind the slice's address hold; 'zs.take n': its elements. (LAID: no walk: one application.) -/
theorem Tryd.slices_Clone_int (b off n c : Nat) (zs : List Int) (w : World) (hz : n ≤ zs.length) (hbig : n * 8 ≤ 140737488355328) (hc : ∀ j, j < zs.length → w.cell? ⟨b, off + j, none⟩ = some (.int .i64 (zs.getD j 0))) :
    Calls Tryd.prog 40 #[.slice (some ⟨b, off, none⟩) n c] w fun e w' => ∃ v', e = .returned v' ∧ w'.ownsRow w.heap.size 3 1 v' n ((zs.take n).map (Value.int .i64)) ∧ v' ≠ .slice none 0 0 ∧ Below w.heap.size w w' := Any.slices_Clone_int Tryd.laysNm215 b off n c zs w hz hbig hc
open Go.RowKit Go.Lib in
/-- The same at nil: nil comes back; the world is as it was. (LAID: no walk: one application.) -/
theorem Tryd.slices_Clone_int_nil (n c : Nat) (w : World) :
    Calls Tryd.prog 40 #[.slice none n c] w fun e w' => e = .returned (.slice none 0 0) ∧ w' = w := Any.slices_Clone_int_nil Tryd.laysNm215 n c w
open Go.RowKit Go.Lib in
/-- The same at a slice of length 0 that is not nil, WHATEVER ITS ADDRESS (no cell is asked for): a slice that is not nil and owns nothing comes back. (LAID: no walk: one application.) -/
theorem Tryd.slices_Clone_int_zero (a : Addr) (c : Nat) (w : World) :
    Calls Tryd.prog 40 #[.slice (some a) 0 c] w fun e w' => ∃ v', e = .returned v' ∧ w'.ownsRow w.heap.size 3 1 v' 0 [] ∧ v' ≠ .slice none 0 0 ∧ Below w.heap.size w w' := Any.slices_Clone_int_zero Tryd.laysNm215 a c w
def Tryd.laysNm237_ren : Go.Shelf.Ren := ⟨fun | 37 => 98 | n => n, fun | 3 => 3 | 4 => 4 | n => n, fun | n => n⟩
theorem Tryd.laysNm237 : Go.Proofs.Lays2.n37 Tryd.prog Tryd.laysNm237_ren := {
  mixed := by kernel_rfl
  f37 := Tryd.func98.trans (congrArg some (by kernel_rfl))
  t3 := Tryd.underlying3
  a3 := Tryd.isAgg3
  z3 := Tryd.sizeOf3
  v3 := Tryd.zeroValue3
  t4 := Tryd.underlying4
  a4 := Tryd.isAgg4
  z4 := Tryd.sizeOf4
  v4 := Tryd.zeroValue4 }
open Go.RowKit Go.Lib in
/-- cmp.isNaN[int]: 'x != x': false. (LAID: no walk: one application.) -/
theorem Tryd.cmp_isNaN_int2 (x : Int) (w : World) :
    Calls Tryd.prog 98 #[.int .i64 x] w fun e w' => e = .returned (.bool false) ∧ w' = w := Any.cmp_isNaN_int2 Tryd.laysNm237 x w
def Tryd.laysNm231_ren : Go.Shelf.Ren := ⟨fun | 31 => 87 | 37 => 98 | n => n, fun | 3 => 3 | 4 => 4 | n => n, fun | n => n⟩
theorem Tryd.laysNm231 : Go.Proofs.Lays2.n31 Tryd.prog Tryd.laysNm231_ren := {
  mixed := by kernel_rfl
  f31 := Tryd.func87.trans (congrArg some (by kernel_rfl))
  f37 := Tryd.func98.trans (congrArg some (by kernel_rfl))
  t3 := Tryd.underlying3
  a3 := Tryd.isAgg3
  z3 := Tryd.sizeOf3
  v3 := Tryd.zeroValue3
  t4 := Tryd.underlying4
  a4 := Tryd.isAgg4
  z4 := Tryd.sizeOf4
  v4 := Tryd.zeroValue4 }
open Go.RowKit Go.Lib in
/-- cmp.Less[int]: "Less reports whether x is less than y.": 'x < y'; the world is as it was. (LAID: no walk: one application.) -/
theorem Tryd.cmp_Less_int2 (x y : Int) (w : World) :
    Calls Tryd.prog 87 #[.int .i64 x, .int .i64 y] w fun e w' => e = .returned (.bool (decide (x < y))) ∧ w' = w := Any.cmp_Less_int2 Tryd.laysNm231 x y w
open Go.RowKit Go.Lib Go.Sort in
/-- slices.Reverse at []int, of an argument: the n cells hold the elements in reverse. (LAID: no walk: one application.) -/
theorem Tryd.slices_Reverse_int_cells (b off n c : Nat) (zs : List Int) (w : World) (hz : n ≤ zs.length) (hbig : n ≤ 9223372036854775807) (hc : ∀ j, j < zs.length → w.cell? ⟨b, off + j, none⟩ = some (.int .i64 (zs.getD j 0))) (hf : ∀ j, j < n → w.frozen? ⟨b, off + j, none⟩ = false) :
    Calls Tryd.prog 60 #[.slice (some ⟨b, off, none⟩) n c] w fun e w' => e = .returned (.tuple #[]) ∧ ∃ q, w' = (w.drewN q).setCells b off ((zs.take n).reverse.map (Value.int .i64)) := Any.slices_Reverse_int_cells Tryd.lays112 b off n c zs w hz hbig hc hf
open Go.RowKit Go.Sort in
/-- .. and plain. (LAID: no walk: one application.) -/
theorem Tryd.slices_Sort_int_none (p : Option Addr) (cap : Nat) (w : World) :
    Calls Tryd.prog 59 #[.slice p 0 cap] w fun e w' => e = .returned (.tuple #[]) ∧ w' = w := Any.slices_Sort_int_none Tryd.lays189 p cap w
def Tryd.laysSlE35_f60_ren : Go.Shelf.Ren := ⟨fun | 35 => 60 | n => n, fun | 22 => 25 | 23 => 3 | 3 => 3 | 4 => 4 | 0 => 0 | n => n, fun | n => n⟩
theorem Tryd.laysSlE35_f60 : Go.Proofs.SlLaysE.n35 Tryd.prog Tryd.laysSlE35_f60_ren := {
  mixed := by kernel_rfl
  f35 := ⟨Tryd.f60.name, by decide, Tryd.func60.trans (congrArg some (by kernel_rfl))⟩
  t0 := Tryd.underlying0
  a0 := Tryd.isAgg0
  z0 := Tryd.sizeOf0
  v0 := Tryd.zeroValue0
  t3 := Tryd.underlying3
  a3 := Tryd.isAgg3
  z3 := Tryd.sizeOf3
  v3 := Tryd.zeroValue3
  t4 := Tryd.underlying4
  a4 := Tryd.isAgg4
  z4 := Tryd.sizeOf4
  v4 := Tryd.zeroValue4
  t22 := Tryd.underlying25
  a22 := Tryd.isAgg25
  z22 := Tryd.sizeOf25
  v22 := Tryd.zeroValue25
  a23 := Tryd.isAgg3
  z23 := Tryd.sizeOf3 }
open Go.RowKit Go.Lib Go.Sort in
/-- slices.Reverse, over an array: Go's loop from the two ends inward is walked; it makes 'Sort.reverseLoop 0 (len - 1)', which is 'Array.reverse' (Derived/Lib/SlicesMore.lean). (LAID AT THE INSTANCE 'slices.Reverse[[]int,int]': no walk: one application.) -/
theorem Tryd.slices_Reverse_arr {α : Type} [Inhabited α] (enc : α → Value) (h1 : OneCell enc) (blk off cap : Nat) (d : Array α) (w : World) (hH : Holds enc w blk off d) (hsz : d.size ≤ 9223372036854775807) :
    Calls Tryd.prog 60 #[.slice (some ⟨blk, off, none⟩) d.size cap] w fun e w' => e = .returned (.tuple #[]) ∧ ∃ n, w' = putRow enc (Sort.ahead w n) blk off d.reverse := AnyE.slices_Reverse_arr Tryd.laysSlE35_f60 enc h1 blk off cap d w hH hsz
open Go.RowKit Go.Lib Go.Sort in
/-- slices.Reverse: "Reverse reverses the elements of the slice in place.": THE SLICE's CELLS HOLD 'zs.reverse' BEHIND THE CALL; all else is as it was, but for the count of draws (the exchange 's[i], s[j] = s[j], s[i]' draws its order, once a round). IN THE WORDS OF slices.Sort's CONTRACT: 'Holds': the cells hold zs and none is frozen; 'putRow': the world with those cells holding another array. A slice of length 0 that is not nil is among them ('zs = []'); nil: '.._nil'. (LAID AT THE INSTANCE 'slices.Reverse[[]int,int]': no walk: one application.) -/
theorem Tryd.slices_Reverse {α : Type} [Inhabited α] (enc : α → Value) (h1 : OneCell enc) (blk off cap : Nat) (zs : List α) (w : World) (hH : Holds enc w blk off zs.toArray) (hsz : zs.length ≤ 9223372036854775807) :
    Calls Tryd.prog 60 #[.slice (some ⟨blk, off, none⟩) zs.length cap] w fun e w' => e = .returned (.tuple #[]) ∧ ∃ n, w' = putRow enc (Sort.ahead w n) blk off zs.reverse.toArray := AnyE.slices_Reverse Tryd.laysSlE35_f60 enc h1 blk off cap zs w hH hsz
open Go.RowKit Go.Lib Go.Sort in
/-- The same at a slice of length 0, a nil one too: nothing is read, nothing written, nothing drawn. (LAID AT THE INSTANCE 'slices.Reverse[[]int,int]': no walk: one application.) -/
theorem Tryd.slices_Reverse_empty {α : Type} [Inhabited α] (a : Option Addr) (cap : Nat) (w : World) :
    Calls Tryd.prog 60 #[.slice a 0 cap] w fun e w' => e = .returned (.tuple #[]) ∧ w' = w := AnyE.slices_Reverse_empty Tryd.laysSlE35_f60 a cap w
def Tryd.laysSlE041_f40_ren : Go.Shelf.Ren := ⟨fun | 41 => 40 | n => n, fun | 22 => 25 | 23 => 3 | 4 => 4 | n => n, fun | n => n⟩
theorem Tryd.laysSlE041_f40 : Go.Proofs.SlLaysE0.n41 Tryd.prog Tryd.laysSlE041_f40_ren := {
  mixed := by kernel_rfl
  f41 := ⟨Tryd.f40.name, by decide, Tryd.func40.trans (congrArg some (by kernel_rfl))⟩
  t4 := Tryd.underlying4
  a4 := Tryd.isAgg4
  z4 := Tryd.sizeOf4
  v4 := Tryd.zeroValue4
  t22 := Tryd.underlying25
  a22 := Tryd.isAgg25
  z22 := Tryd.sizeOf25
  v22 := Tryd.zeroValue25 }
open Go.RowKit Go.Lib in
/-- slices.Clone: "Clone returns a copy of the slice. The elements are copied using assignment, so this is a shallow clone. The result may have additional unused capacity. The result preserves the nilness of s.": OF A SLICE THAT IS NOT nil IT RETURNS A SLICE THAT IS NOT nil, OF THE SAME CELLS, IN MEMORY OF THE CALL's OWN ('ownsRow': the how-to's 6f); below the heap's size at the call all is as it was. (LAID AT THE INSTANCE 'slices.Clone[[]int,int]': no walk: one application.) -/
theorem Tryd.slices_Clone (i0 : TypeInfo) (z : Value) (size bytes : Nat) (hi : Tryd.prog.info? 3 = some i0) (hz0 : i0.zero = some z) (hz1 : i0.size = size) (hz2 : i0.bytes = bytes) (hzs : z.cells.size = size) (hsz : 0 < size) (z23 : ∀ w, (Go.sizeOf 3).run Tryd.prog w = .ok size w) (b off n c : Nat) (news : List Value) (w : World) (hl : news.length = n * size) (hn : n ≤ maxLen) (hbig : n * bytes ≤ 140737488355328) (hc : ∀ j u, news[j]? = some u → w.cell? ⟨b, off + j, none⟩ = some u) (h1 : ∀ u ∈ news, u.oneCell' = true) :
    Calls Tryd.prog 40 #[.slice (some ⟨b, off, none⟩) n c] w fun e w' => ∃ v', e = .returned v' ∧ w'.ownsRow w.heap.size 3 size v' n news ∧ v' ≠ .slice none 0 0 ∧ Below w.heap.size w w' := AnyE.slices_Clone Tryd.laysSlE041_f40 i0 z size bytes hi hz0 hz1 hz2 hzs hsz z23 b off n c news w hl hn hbig hc h1
open Go.RowKit Go.Lib in
/-- The same at nil: nil comes back; the world is as it was; nothing is asked of the element's type. (LAID AT THE INSTANCE 'slices.Clone[[]int,int]': no walk: one application.) -/
theorem Tryd.slices_Clone_nil (n c : Nat) (w : World) :
    Calls Tryd.prog 40 #[.slice none n c] w fun e w' => e = .returned (.slice none 0 0) ∧ w' = w := AnyE.slices_Clone_nil Tryd.laysSlE041_f40 n c w
end Go.Proofs

/- The words of our walks: a slice that reads as a list of whole numbers, of pairs, of lists; what memory keeps; the sentinels' cells. No condition. -/
namespace Go.Proofs.YtcnecmcbjpehcaaDoor
open Go.RowKit Go.Deep

theorem hide {p : Prop} (h : p) : Hid p := h

/-- the slice at A reads as the numbers l -/
structure Ints (w : World) (A : Option Addr) (l : List Int) : Prop where
  len : l.length ≤ 9223372036854775807
  at_ : ∀ i, i < l.length → ∃ b off, A = some ⟨b, off, none⟩ ∧ b < w.heap.size ∧ w.cell? ⟨b, off + i, none⟩ = some (.int .i64 (l.getD i 0))

/-- the slice at A reads as the pairs l -/
structure Pairs (w : World) (A : Option Addr) (l : List (Int × Int)) : Prop where
  len : l.length ≤ 9223372036854775807
  at_ : ∀ i, i < l.length → ∃ b off, A = some ⟨b, off, none⟩ ∧ b < w.heap.size ∧ w.cell? ⟨b, off + i * 2, none⟩ = some (.int .i64 (l.getD i (0, 0)).1) ∧ w.cell? ⟨b, off + i * 2 + 1, none⟩ = some (.int .i64 (l.getD i (0, 0)).2)

/-- the slice at A reads as the lists l -/
structure Lists (w : World) (A : Option Addr) (l : List (List Int)) : Prop where
  len : l.length ≤ 9223372036854775807
  at_ : ∀ i, i < l.length → ∃ b off A' c, A = some ⟨b, off, none⟩ ∧ b < w.heap.size ∧ w.cell? ⟨b, off + i, none⟩ = some (.slice A' (l.getD i []).length c) ∧ (l.getD i []).length ≤ c ∧ Ints w A' (l.getD i [])

theorem Ints.below {w w' : World} {A : Option Addr} {l : List Int} (h : Ints w A l) (hb : Below w.heap.size w w') : Ints w' A l :=
  ⟨h.len, fun i hi => by
    obtain ⟨b, off, e, h1, h2⟩ := h.at_ i hi
    exact ⟨b, off, e, Nat.lt_of_lt_of_le h1 hb.size, (hb.cell (p := ⟨b, off + i, none⟩) h1).trans h2⟩⟩
theorem Pairs.below {w w' : World} {A : Option Addr} {l : List (Int × Int)} (h : Pairs w A l) (hb : Below w.heap.size w w') : Pairs w' A l :=
  ⟨h.len, fun i hi => by
    obtain ⟨b, off, e, h1, h2, h3⟩ := h.at_ i hi
    exact ⟨b, off, e, Nat.lt_of_lt_of_le h1 hb.size, (hb.cell (p := ⟨b, off + i * 2, none⟩) h1).trans h2, (hb.cell (p := ⟨b, off + i * 2 + 1, none⟩) h1).trans h3⟩⟩
theorem Lists.below {w w' : World} {A : Option Addr} {l : List (List Int)} (h : Lists w A l) (hb : Below w.heap.size w w') : Lists w' A l :=
  ⟨h.len, fun i hi => by
    obtain ⟨b, off, A', c, e, h1, h2, h3, h4⟩ := h.at_ i hi
    exact ⟨b, off, A', c, e, Nat.lt_of_lt_of_le h1 hb.size, (hb.cell (p := ⟨b, off + i, none⟩) h1).trans h2, h3, h4.below hb⟩⟩
theorem Ints.nil (w : World) (A : Option Addr) : Ints w A [] := ⟨by simp, fun i h => absurd h (by simp)⟩
theorem Pairs.nil (w : World) (A : Option Addr) : Pairs w A [] := ⟨by simp, fun i h => absurd h (by simp)⟩
theorem Lists.nil (w : World) (A : Option Addr) : Lists w A [] := ⟨by simp, fun i h => absurd h (by simp)⟩

theorem below_then {B : Nat} {w w1 w2 : World} (h : Below B w w1) (hB : B ≤ w1.heap.size) (k : Below w1.heap.size w1 w2) : Below B w w2 :=
  h.trans (k.mono hB)
theorem below_trans {w w1 w2 : World} (h : Below w.heap.size w w1) (k : Below w1.heap.size w1 w2) : Below w.heap.size w w2 :=
  h.trans (k.mono h.size)
theorem below_drewN' {B : Nat} {a w : World} (h : Below B a w) (n : Nat) : Below B a (w.drewN n) := ⟨h.os, h.tape, h.output, h.size, h.block⟩
theorem below_alloc' {w W : World} (h : Below w.heap.size w W) (o : Obj) : Below w.heap.size w (W.alloc o) := h.alloc h.size o
theorem below_cells {B : Nat} {W w1 : World} (hb : Below B W w1) : (∀ b o, b < B → w1.cell? ⟨b, o, none⟩ = W.cell? ⟨b, o, none⟩) ∧ (∀ b o, b < B → w1.frozen? ⟨b, o, none⟩ = W.frozen? ⟨b, o, none⟩) :=
  ⟨fun b o h => hb.cell (p := ⟨b, o, none⟩) h, fun b o h => hb.frozen (p := ⟨b, o, none⟩) h⟩

theorem below_of_grown {W w1 : World} {v : Value} (hg : W.grownBy w1 v.ownBlock) (h : v.ownBlock = none) : Below W.heap.size W w1 :=
  ⟨hg.os, hg.tape, hg.output, hg.size, fun k hk => hg.block k hk (by rw [h]; simp)⟩

/-- a row known whole reads as the list of its numbers -/
theorem Ints.ofRow {w : World} {b n : Nat} {t : TypeId} {f : Nat → Int} (h : w.rowIs b t n (fun i => .int .i64 (f i))) (hn : n ≤ 9223372036854775807) : Ints w (some ⟨b, 0, none⟩) ((List.range n).map f) :=
  ⟨by simpa using hn, fun i hi => by
    have hi' : i < n := by simpa using hi
    refine ⟨b, 0, rfl, h.lt, ?_⟩
    have := h.cell hi'
    simpa [List.getD_eq_getElem?_getD, List.getElem?_map, List.getElem?_range hi'] using this⟩

/-- the number of the variable of an error's code -/
def glob : Nat → Nat
  | 1 => 4 | 2 => 0 | 3 => 1 | 4 => 5 | 5 => 6 | 6 => 3 | 7 => 2 | _ => 7
/-- the error value whose text lies at a -/
def errAt (a : Addr) : Value := .iface 155 (.pointer (some a))
/-- the error of a code -/
def errC (a : Nat → Addr) (c : Int) : Value := if c = 0 then .nilIface else errAt (a c.toNat)
theorem errC_zero (a : Nat → Addr) : errC a 0 = .nilIface := rfl
theorem errC_two (a : Nat → Addr) : errC a 2 = .iface 155 (.pointer (some (a 2))) := rfl
theorem errC_three (a : Nat → Addr) : errC a 3 = .iface 155 (.pointer (some (a 3))) := rfl
/-- the sentinels of the codes S hold errors at the places a -/
structure Env (S : List Nat) (w : World) (a : Nat → Addr) : Prop where
  cell : ∀ c, c ∈ S → w.cell? ⟨glob c, 0, none⟩ = some (.iface 155 (.pointer (some (a c))))
theorem Env.below {S : List Nat} {w w' : World} {a : Nat → Addr} (h : Env S w a) (hb : Below w.heap.size w w') : Env S w' a :=
  ⟨fun c hc => (hb.cell (p := ⟨glob c, 0, none⟩) (World.block_lt_of_cell? w _ (h.cell c hc))).trans (h.cell c hc)⟩
theorem Env.lt {S : List Nat} {w : World} {a : Nat → Addr} (h : Env S w a) {c : Nat} (hc : c ∈ S) : glob c < w.heap.size := World.block_lt_of_cell? w _ (h.cell c hc)
theorem Env.sub {S S' : List Nat} {w : World} {a : Nat → Addr} (h : Env S w a) (hs : ∀ c, c ∈ S' → c ∈ S) : Env S' w a := ⟨fun c hc => h.cell c (hs c hc)⟩
/-- a slice that reads as l, and no error -/
def RetIntsErr (l : List Int) (w : World) (e : Ending) (w' : World) : Prop :=
  ∃ A c, e = .returned (.tuple #[.slice A l.length c, .nilIface]) ∧ Ints w' A l ∧ l.length ≤ c ∧ Below w.heap.size w w'
/-- a slice that reads as l -/
def RetInts (l : List Int) (w : World) (e : Ending) (w' : World) : Prop :=
  ∃ A c, e = .returned (.slice A l.length c) ∧ Ints w' A l ∧ l.length ≤ c ∧ Below w.heap.size w w'
theorem ret_int {k : IntKind} {a b : Int} (h : a = b) : Ending.returned (.int k a) = .returned (.int k b) := by rw [h]
theorem ret_bool {a b : Bool} (h : a = b) : Ending.returned (.bool a) = .returned (.bool b) := by rw [h]
end Go.Proofs.YtcnecmcbjpehcaaDoor

/- A slice that reads as a list of cells, nil let in; append onto a row of the call's own, the source nil, empty or not (lemmas that the kit's page extra-words offers for copying, laid into this seat's namespace; the last section is ours). No condition. -/
namespace Go.Proofs.YtcnecmcbjpehcaaDoor
open Go.RowKit Go.Deep

theorem block_of_add (a : Addr) (n : Nat) : (a.add n).block = a.block := by unfold Addr.add; split <;> rfl
theorem add_of_add (a : Addr) (i j : Nat) : (a.add i).add j = a.add (i + j) := by
  unfold Addr.add
  by_cases hi : i = 0 <;> by_cases hj : j = 0 <;> simp [hi, hj, Nat.add_assoc]

def Reads (w : World) (B size : Nat) (A : Option Addr) (n : Nat) (xs : List Value) : Prop :=
  xs.length = n * size ∧ (0 < n → ∃ ad, A = some ad ∧ ad.block < B ∧ ∀ j u, xs[j]? = some u → w.cell? (ad.add j) = some u)

section
variable {w w' : World} {B B' size n : Nat} {A : Option Addr} {xs : List Value}
theorem Reads.none_ : Reads w B size A 0 [] := ⟨by simp, fun h => absurd h (by omega)⟩
theorem Reads.at_ {k : Nat} (h : Reads w B 1 A n xs) (hk : k < n) : ∃ ad u, A = some ad ∧ ad.block < B ∧ xs[k]? = some u ∧ w.cell? (ad.add k) = some u := by
  obtain ⟨ad, e, hb, hc⟩ := h.2 (by omega)
  have hl : k < xs.length := by have := h.1; omega
  exact ⟨ad, xs[k], e, hb, List.getElem?_eq_getElem hl, hc k _ (List.getElem?_eq_getElem hl)⟩
theorem Reads.keep (h : Reads w B size A n xs) (hk : ∀ p : Addr, p.block < B → w'.cell? p = w.cell? p) : Reads w' B size A n xs :=
  ⟨h.1, fun hn => by
    obtain ⟨ad, e, hb, hc⟩ := h.2 hn
    exact ⟨ad, e, hb, fun j u hu => (hk _ (by rw [block_of_add]; exact hb)).trans (hc j u hu)⟩⟩
theorem Reads.more (h : Reads w B size A n xs) (hB : B ≤ B') : Reads w B' size A n xs :=
  ⟨h.1, fun hn => by
    obtain ⟨ad, e, hb, hc⟩ := h.2 hn
    exact ⟨ad, e, by omega, hc⟩⟩
theorem Reads.below (h : Reads w B size A n xs) (hb : Below B w w') : Reads w' B size A n xs := h.keep fun _ hp => hb.cell hp
theorem Reads.drew (h : Reads w B size A n xs) : Reads w.drew B size A n xs := h
theorem Reads.drewN (h : Reads w B size A n xs) (k : Nat) : Reads (w.drewN k) B size A n xs := h
theorem Reads.alloc (h : Reads w B size A n xs) (hB : B ≤ w.heap.size) (o : Obj) : Reads (w.alloc o) B size A n xs := h.keep fun p hp => World.cell?_alloc_lt w o p (by omega)
theorem Reads.setCell (h : Reads w B size A n xs) {p : Addr} (hB : B ≤ p.block) (u : Value) : Reads (w.setCell p u) B size A n xs :=
  h.keep fun q hq => World.cell?_setCell_other w p q u (fun e => by subst e; omega)
theorem Reads.grown (h : Reads w B size A n xs) {row : Option Nat} (hg : w.grownBy w' row) (hB : B ≤ w.heap.size) (hr : ∀ g, row = some g → B ≤ g) : Reads w' B size A n xs :=
  h.keep fun p hp => World.cell?_of_block (hg.block p.block (by omega) (fun e => by have := hr _ e.symm; omega))
theorem Reads.cut (h : Reads w B size A n xs) {k cap : Nat} (hk : k ≤ n) (hc : n ≤ cap) :
    Reads w B size (if cap = k then A else A.map (·.add (k * size))) (n - k) (xs.drop (k * size)) := by
  refine ⟨by rw [List.length_drop, h.1, Nat.sub_mul], fun hn => ?_⟩
  obtain ⟨ad, rfl, hb, hcell⟩ := h.2 (by omega)
  rw [if_neg (by omega)]
  refine ⟨ad.add (k * size), rfl, by rw [block_of_add]; exact hb, fun j u hu => ?_⟩
  rw [add_of_add]
  exact hcell _ u (by rw [← hu, List.getElem?_drop])
theorem Reads.of_own {base : Nat} {e : TypeId} {c : Nat} (h : w.ownsRow base e size (.slice A n c) n xs) : Reads w w.heap.size size A n xs := by
  refine ⟨h.1, fun hn => ?_⟩
  obtain ⟨g, cap, hv, _, hlt⟩ := h.form hn
  have hA : A = some ⟨g, 0, none⟩ := by injection hv
  subst hA
  exact ⟨_, rfl, hlt, h.cells (g := g) rfl⟩
end
section
variable {P : Program} (w : World)

theorem run_append_of_nil (base : Nat) (t ty e : TypeId) (i : TypeInfo) (size : Nat) (ht : P.underlying t = some (.slice e)) (hi : P.info? e = some i)
    (v : Value) (n : Nat) (xs : List Value) (hown : w.ownsRow base e size v n xs) (c : Nat) : (Builtin.append_ #[t, t] ty #[v, .slice none 0 c]).run P w = .ok v w := by
  rcases hown.2 with ⟨rfl, rfl⟩ | ⟨g, cap, cur, rfl, _, _, hnc, _⟩
  · simp [Builtin.append_, run_underlying ht, sizeOf, typeInfo, hi, Builtin.lenOf, Builtin.firstCells]
  · simp [Builtin.append_, run_underlying ht, sizeOf, typeInfo, hi, Builtin.lenOf, Builtin.firstCells, hnc, storeCells]

theorem run_append_any (base : Nat) (t ty e : TypeId) (i : TypeInfo) (z : Value) (size bytes : Nat) (ht : P.underlying t = some (.slice e)) (hi : P.info? e = some i) (hz : i.zero = some z)
    (hsize : i.size = size) (hby : i.bytes = bytes) (hzs : z.cells.size = size) (hsz : 0 < size)
    (v : Value) (n : Nat) (xs : List Value) (hown : w.ownsRow base e size v n xs)
    (B : Nat) (A : Option Addr) (m c : Nat) (news : List Value) (hr : Reads w B size A m news) (h1 : ∀ u ∈ news, u.oneCell' = true)
    (h63 : n + m ≤ maxLen) (hbytes : (n + m) * bytes ≤ 140737488355328) (hbase : base ≤ w.heap.size) :
    ∃ v' w', (Builtin.append_ #[t, t] ty #[v, .slice A m c]).run P w = .ok v' w' ∧ w'.ownsRow base e size v' (n + m) (xs ++ news) ∧ w.grownBy w' v.ownBlock ∧
      (v'.ownBlock = v.ownBlock ∨ v'.ownBlock = some w.heap.size) := by
  rcases A with _ | ad
  · have hm : m = 0 := by
      rcases Nat.eq_zero_or_pos m with h0 | h0
      · exact h0
      · obtain ⟨ad, h, _⟩ := hr.2 h0
        cases h
    subst hm
    have hn : news = [] := List.eq_nil_of_length_eq_zero (by simpa using hr.1)
    subst hn
    exact ⟨v, w, run_append_of_nil w base t ty e i size ht hi v n xs hown c, by simpa using hown, World.grownBy.refl w _, .inl rfl⟩
  · have hcells : ∀ j u, news[j]? = some u → w.cell? (ad.add j) = some u := by
      intro j u hu
      rcases Nat.eq_zero_or_pos m with h0 | h0
      · subst h0
        have hn : news = [] := List.eq_nil_of_length_eq_zero (by simpa using hr.1)
        subst hn
        simp at hu
      · obtain ⟨ad', h, _, hc⟩ := hr.2 h0
        injection h with h
        subst h
        exact hc j u hu
    obtain ⟨v', w', hrun, h2, h3, _, h5⟩ := run_append_own_at (P := P) w base t ty e i z size bytes ht hi hz hsize hby hzs hsz v n xs hown ad m c news hr.1 hcells h1 h63 hbytes hbase
    exact ⟨v', w', hrun, h2, h3, h5⟩

theorem wp_append_any {o : Oper} {a : Act} {K : Act → World → Prop} {Q : Exit → Act → World → Prop} (s x : Operand) (t : TypeId)
    (ho : o.op = .call { callee := .builtin .append, args := #[s, x], argTypes := #[t, t] })
    (base : Nat) (e : TypeId) (i : TypeInfo) (z : Value) (size bytes : Nat) (ht : P.underlying t = some (.slice e)) (hi : P.info? e = some i) (hz : i.zero = some z)
    (hsize : i.size = size) (hby : i.bytes = bytes) (hzs : z.cells.size = size) (hsz : 0 < size)
    (v : Value) (n : Nat) (xs : List Value) (hs : a.eval s = v) (hown : w.ownsRow base e size v n xs)
    (B : Nat) (A : Option Addr) (m c : Nat) (news : List Value) (hx : a.eval x = .slice A m c) (hr : Reads w B size A m news) (h1 : ∀ u ∈ news, u.oneCell' = true)
    (h63 : n + m ≤ maxLen) (hbytes : (n + m) * bytes ≤ 140737488355328) (hbase : base ≤ w.heap.size)
    (h : ∀ v' w', w'.ownsRow base e size v' (n + m) (xs ++ news) → w.grownBy w' v.ownBlock → (v'.ownBlock = v.ownBlock ∨ v'.ownBlock = some w.heap.size) → K (a.put o.dst v') w') : o.wp P a w K Q := by
  obtain ⟨v', w', hrun, h2, h3, h4⟩ := run_append_any (P := P) w base t o.type e i z size bytes ht hi hz hsize hby hzs hsz v n xs hown B A m c news hr h1 h63 hbytes hbase
  unfold Oper.wp execOp
  simp only [ho, resolve, invoke, builtin, Sem.run_bind, Sem.run_pure, Result.andThen_ok, List.map_toArray, List.map_cons, List.map_nil, hs, hx, hrun]
  exact h v' w' h2 h3 h4

theorem wpList_append_any {ops : Array Oper} {rest : List Oper} {o : Oper} {a : Act} {Q : Exit → Act → World → Prop} (hgd : o.guard = none) (s x : Operand) (t : TypeId)
    (ho : o.op = .call { callee := .builtin .append, args := #[s, x], argTypes := #[t, t] })
    (base : Nat) (e : TypeId) (i : TypeInfo) (z : Value) (size bytes : Nat) (ht : P.underlying t = some (.slice e)) (hi : P.info? e = some i) (hz : i.zero = some z)
    (hsize : i.size = size) (hby : i.bytes = bytes) (hzs : z.cells.size = size) (hsz : 0 < size)
    (v : Value) (n : Nat) (xs : List Value) (hs : a.eval s = v) (hown : w.ownsRow base e size v n xs)
    (B : Nat) (A : Option Addr) (m c : Nat) (news : List Value) (hx : a.eval x = .slice A m c) (hr : Reads w B size A m news) (h1 : ∀ u ∈ news, u.oneCell' = true)
    (h63 : n + m ≤ maxLen) (hbytes : (n + m) * bytes ≤ 140737488355328) (hbase : base ≤ w.heap.size)
    (h : ∀ v' w', w'.ownsRow base e size v' (n + m) (xs ++ news) → w.grownBy w' v.ownBlock → (v'.ownBlock = v.ownBlock ∨ v'.ownBlock = some w.heap.size) → wpList P ops Q rest (a.put o.dst v') w') : wpList P ops Q (o :: rest) a w :=
  wpList_plain hgd fun _ hK => wp_append_any w s x t ho base e i z size bytes ht hi hz hsize hby hzs hsz v n xs hs hown B A m c news hx hr h1 h63 hbytes hbase fun v' w' h2 h3 h4 => hK _ _ (h v' w' h2 h3 h4)

theorem step_append_any {ops : Array Oper} {o : Oper} {a : Act} {K : Act → World → Prop} {Q : Exit → Act → World → Prop} {E : Prop} (hgd : o.guard = none) (s x : Operand) (t : TypeId)
    (ho : o.op = .call { callee := .builtin .append, args := #[s, x], argTypes := #[t, t] })
    (base : Nat) (e : TypeId) (i : TypeInfo) (z : Value) (size bytes : Nat) (ht : P.underlying t = some (.slice e)) (hi : P.info? e = some i) (hz : i.zero = some z)
    (hsize : i.size = size) (hby : i.bytes = bytes) (hzs : z.cells.size = size) (hsz : 0 < size)
    (v : Value) (n : Nat) (xs : List Value) (hs : a.eval s = v) (hown : w.ownsRow base e size v n xs)
    (B : Nat) (A : Option Addr) (m c : Nat) (news : List Value) (hx : a.eval x = .slice A m c) (hr : Reads w B size A m news) (h1 : ∀ u ∈ news, u.oneCell' = true)
    (h63 : n + m ≤ maxLen) (hbytes : (n + m) * bytes ≤ 140737488355328) (hbase : base ≤ w.heap.size)
    (h : ∀ v' w', w'.ownsRow base e size v' (n + m) (xs ++ news) → w.grownBy w' v.ownBlock → (v'.ownBlock = v.ownBlock ∨ v'.ownBlock = some w.heap.size) → K (a.put o.dst v') w') :
    if Region.wanted o (yielded ops a.tmps) = true then Oper.wp P o a w K Q else E := by
  have hw : Region.wanted o (yielded ops a.tmps) = true := by simp [Region.wanted, hgd]
  rw [if_pos hw]
  exact wp_append_any w s x t ho base e i z size bytes ht hi hz hsize hby hzs hsz v n xs hs hown B A m c news hx hr h1 h63 hbytes hbase h
end

/-! ### our own: from our readings to Reads, and from a row of the call's own to our readings -/
def intCells (l : List Int) : List Value := l.map (Value.int .i64)
def pairCells (l : List (Int × Int)) : List Value := l.flatMap fun p => [Value.int .i64 p.1, Value.int .i64 p.2]
theorem intCells_length (l : List Int) : (intCells l).length = l.length := by simp [intCells]
theorem pairCells_length (l : List (Int × Int)) : (pairCells l).length = l.length * 2 := by
  induction l with
  | nil => rfl
  | cons p l ih => simp only [pairCells, List.flatMap_cons, List.length_append, List.length_cons, List.length_nil] at ih ⊢; omega
theorem intCells_append (l m : List Int) : intCells (l ++ m) = intCells l ++ intCells m := by simp [intCells]
theorem pairCells_append (l m : List (Int × Int)) : pairCells (l ++ m) = pairCells l ++ pairCells m := by simp [pairCells]
theorem intCells_one (l : List Int) : ∀ u ∈ intCells l, u.oneCell' = true := by
  intro u hu
  simp only [intCells, List.mem_map] at hu
  obtain ⟨x, _, rfl⟩ := hu
  rfl
theorem pairCells_one (l : List (Int × Int)) : ∀ u ∈ pairCells l, u.oneCell' = true := by
  intro u hu
  simp only [pairCells, List.mem_flatMap] at hu
  obtain ⟨x, _, h⟩ := hu
  simp at h
  rcases h with rfl | rfl <;> rfl
theorem pairCells_at (l : List (Int × Int)) : ∀ i, i < l.length → (pairCells l)[i * 2]? = some (.int .i64 (l.getD i (0, 0)).1) ∧ (pairCells l)[i * 2 + 1]? = some (.int .i64 (l.getD i (0, 0)).2) := by
  induction l with
  | nil => intro i h; simp at h
  | cons p l ih =>
    intro i h
    cases i with
    | zero => exact ⟨rfl, rfl⟩
    | succ i =>
      have hi : i < l.length := by simpa using h
      have := ih i hi
      have e : pairCells (p :: l) = Value.int .i64 p.1 :: Value.int .i64 p.2 :: pairCells l := by simp [pairCells]
      rw [e, show (i + 1) * 2 = i * 2 + 1 + 1 from by omega, List.getElem?_cons_succ, List.getElem?_cons_succ, List.getElem?_cons_succ, List.getElem?_cons_succ, List.getD_cons_succ]
      exact this
theorem intCells_at (l : List Int) : ∀ i, i < l.length → (intCells l)[i]? = some (.int .i64 (l.getD i 0)) := by
  intro i h
  simp [intCells, List.getD_eq_getElem?_getD, h]
theorem addr_add (b o n : Nat) : (⟨b, o, none⟩ : Addr).add n = ⟨b, o + n, none⟩ := by
  unfold Addr.add
  by_cases h : n = 0
  · subst h; rfl
  · simp [h]
theorem Ints.reads {w : World} {A : Option Addr} {l : List Int} (h : Ints w A l) : Reads w w.heap.size 1 A l.length (intCells l) := by
  refine ⟨by rw [intCells_length]; omega, fun hn => ?_⟩
  obtain ⟨b, off, e, hb, _⟩ := h.at_ 0 hn
  refine ⟨⟨b, off, none⟩, e, hb, fun j u hu => ?_⟩
  have hj : j < l.length := by
    rcases Nat.lt_or_ge j l.length with h1 | h1
    · exact h1
    · rw [List.getElem?_eq_none (by rw [intCells_length]; exact h1)] at hu; cases hu
  obtain ⟨b', off', e', _, hc⟩ := h.at_ j hj
  rw [e] at e'
  injection e' with e'
  injection e' with e1 e2 e3
  subst e1; subst e2
  rw [intCells_at l j hj] at hu
  rw [addr_add]
  exact hc.trans hu
theorem Pairs.reads {w : World} {A : Option Addr} {l : List (Int × Int)} (h : Pairs w A l) : Reads w w.heap.size 2 A l.length (pairCells l) := by
  refine ⟨by rw [pairCells_length], fun hn => ?_⟩
  obtain ⟨b, off, e, hb, _⟩ := h.at_ 0 hn
  refine ⟨⟨b, off, none⟩, e, hb, fun j u hu => ?_⟩
  have hj : j < l.length * 2 := by
    rcases Nat.lt_or_ge j (l.length * 2) with h1 | h1
    · exact h1
    · rw [List.getElem?_eq_none (by rw [pairCells_length]; exact h1)] at hu; cases hu
  obtain ⟨b', off', e', _, hc1, hc2⟩ := h.at_ (j / 2) (by omega)
  rw [e] at e'
  injection e' with e'
  injection e' with e1 e2 e3
  subst e1; subst e2
  have hp := pairCells_at l (j / 2) (by omega)
  rw [addr_add]
  rcases Nat.mod_two_eq_zero_or_one j with h2 | h2
  · rw [show j = j / 2 * 2 from by omega] at hu ⊢
    rw [hp.1] at hu
    exact hc1.trans hu
  · rw [show j = j / 2 * 2 + 1 from by omega] at hu ⊢
    rw [hp.2] at hu
    exact hc2.trans hu
theorem own_shape {w : World} {base n : Nat} {e : TypeId} {size : Nat} {v : Value} {xs : List Value} (h : w.ownsRow base e size v n xs) : ∃ A c, v = .slice A n c ∧ n ≤ c ∧ n ≤ 9223372036854775807 := by
  rcases h.2 with ⟨rfl, rfl⟩ | ⟨g, cap, cur, rfl, _, _, h1, h2, _⟩
  · exact ⟨none, 0, rfl, Nat.le_refl _, by omega⟩
  · exact ⟨_, cap, rfl, h1, by simp only [maxLen] at h2; omega⟩
theorem Ints.own {w : World} {base c : Nat} {e : TypeId} {A : Option Addr} {l : List Int} (h : w.ownsRow base e 1 (.slice A l.length c) l.length (intCells l)) : Ints w A l := by
  obtain ⟨A', c', hv, _, hm⟩ := own_shape h
  refine ⟨hm, fun i hi => ?_⟩
  rcases h.2 with ⟨hn, h0⟩ | ⟨g, cap, cur, hv, hb, hh, h1, h2, _⟩
  · omega
  · injection hv with hA _ _
    subst hA
    refine ⟨g, 0, rfl, (Array.getElem?_eq_some_iff.1 hh).1, ?_⟩
    have := h.cells (g := g) rfl i _ (intCells_at l i hi)
    rw [addr_add] at this
    exact this
theorem Pairs.own {w : World} {base c : Nat} {e : TypeId} {A : Option Addr} {l : List (Int × Int)} (h : w.ownsRow base e 2 (.slice A l.length c) l.length (pairCells l)) : Pairs w A l := by
  obtain ⟨A', c', hv, _, hm⟩ := own_shape h
  refine ⟨hm, fun i hi => ?_⟩
  rcases h.2 with ⟨hn, h0⟩ | ⟨g, cap, cur, hv, hb, hh, h1, h2, _⟩
  · omega
  · injection hv with hA _ _
    subst hA
    refine ⟨g, 0, rfl, (Array.getElem?_eq_some_iff.1 hh).1, ?_, ?_⟩
    · have := h.cells (g := g) rfl (i * 2) _ (pairCells_at l i hi).1
      rw [addr_add] at this
      exact this
    · have := h.cells (g := g) rfl (i * 2 + 1) _ (pairCells_at l i hi).2
      rw [addr_add] at this
      rw [show 0 + i * 2 + 1 = 0 + (i * 2 + 1) from by omega]
      exact this
theorem nil_own (w : World) (base : Nat) (e : TypeId) (size : Nat) : w.ownsRow base e size (.slice none 0 0) 0 [] := ⟨by simp, .inl ⟨rfl, rfl⟩⟩

/-! ### append at the types of this seat -/
theorem int_info : (Tryd.prog.info? 3).map (fun i => (i.zero, i.size, i.bytes)) = some (some (.int .i64 0), 1, 8) := by kernel_rfl
/-- append of a slice of whole numbers onto a row of the call's own -/
theorem wp_app_ints (w : World) {ops : Array Oper} {rest : List Oper} {o : Oper} {a : Act} {Q : Exit → Act → World → Prop} (hgd : o.guard = none) (s x : Operand)
    (ho : o.op = .call { callee := .builtin .append, args := #[s, x], argTypes := #[25, 25] })
    (base : Nat) (v : Value) (l0 : List Int) (hs : a.eval s = v) (hown : w.ownsRow base 3 1 v l0.length (intCells l0))
    (A : Option Addr) (m c : Nat) (l : List Int) (hx : a.eval x = .slice A m c) (hm : m = l.length) (hr : Ints w A l)
    (hbytes : (l0.length + m) * 8 ≤ 140737488355328) (hbase : base ≤ w.heap.size)
    (h : ∀ A' c' w', (l0 ++ l).length ≤ c' → w'.ownsRow base 3 1 (.slice A' (l0 ++ l).length c') (l0 ++ l).length (intCells (l0 ++ l)) → w.grownBy w' v.ownBlock → ((Value.slice A' (l0 ++ l).length c').ownBlock = v.ownBlock ∨ (Value.slice A' (l0 ++ l).length c').ownBlock = some w.heap.size) →
      wpList Tryd.prog ops Q rest (a.put o.dst (.slice A' (l0 ++ l).length c')) w') : wpList Tryd.prog ops Q (o :: rest) a w := by
  obtain ⟨i0, hi0, hz0, hz1, hz2⟩ := info_parts int_info
  subst hm
  refine wpList_append_any w hgd s x _ ho base 3 i0 _ 1 8 Tryd.underlying25 hi0 hz0 hz1 hz2 rfl (by omega) v l0.length (intCells l0) hs hown w.heap.size A l.length c (intCells l) hx hr.reads (intCells_one l) (by simp only [maxLen]; omega) hbytes hbase ?_
  intro v' w' h1 h2 h3
  rw [← intCells_append, ← List.length_append] at h1
  obtain ⟨A', c', rfl, hc, _⟩ := own_shape h1
  exact h A' c' w' hc h1 h2 h3

/-! ### make([]int, n) -/
theorem wp_make_ints (w : World) {ops : Array Oper} {rest : List Oper} {o : Oper} {a : Act} {Q : Exit → Act → World → Prop}
    (hg : o.guard = none) (l c : Operand) (hop : o.op = Op.makeSlice 25 l c) (kl kc : IntKind) (n : Nat) (hl : a.eval l = .int kl (n : Int)) (hc : a.eval c = .int kc (n : Int)) (hn : n ≤ 35184372088832)
    (hK : ∀ w', w'.rowIs w.heap.size 3 n (fun _ => .int .i64 0) → Below w.heap.size w w' → w.heap.size < w'.heap.size → wpList Tryd.prog ops Q rest (a.put o.dst (.slice (some ⟨w.heap.size, 0, none⟩) n n)) w') :
    wpList Tryd.prog ops Q (o :: rest) a w := by
  obtain ⟨i0, hi0, hz0, hz1, hz2⟩ := info_parts int_info
  refine wpList_make_row w hg l c _ hop 3 i0 _ Tryd.underlying25 hi0 hz0 hz1 rfl kl kc n hl hc (by rw [hz2]; omega) (by omega) ?_
  exact hK _ (World.rowIs_made w _ n _) ((Below.refl _ _).alloc (Nat.le_refl _) _) (by simp)
end Go.Proofs.YtcnecmcbjpehcaaDoor

/- Plain words for systems: which pair is bad; the code of a system's error. No condition. -/
namespace Go.Proofs.YtcnecmcbjpehcaaDoor

def badPair (n : Int) (p : Int × Int) : Bool := decide (p.1 < 0 ∨ p.2 < 0 ∨ n ≤ p.1 ∨ n ≤ p.2 ∨ p.1 = p.2)
def vcode (n : Int) (l : List (Int × Int)) : Int := if n < 0 ∨ 14 < n ∨ 30 < l.length then 2 else if l.any (badPair n) then 3 else 0

/-- all pairs ahead of place k are right -/
structure Good (n : Int) (l : List (Int × Int)) (k : Nat) : Prop where
  out : ∀ j, j < k → badPair n (l.getD j (0, 0)) = false
theorem Good.zero (n : Int) (l : List (Int × Int)) : Good n l 0 := ⟨fun j h => absurd h (by omega)⟩
theorem Good.succ {n : Int} {l : List (Int × Int)} {k : Nat} (h : Good n l k) (hk : badPair n (l.getD k (0, 0)) = false) : Good n l (k + 1) :=
  ⟨fun j hj => by
    by_cases e : j = k
    · rw [e]; exact hk
    · exact h.out j (by omega)⟩
theorem getD_eq {α : Type} (l : List α) (i : Nat) (d : α) (h : i < l.length) : l.getD i d = l[i] := by simp [List.getD_eq_getElem?_getD, h]
theorem vcode_big {n : Int} {l : List (Int × Int)} (h : n < 0 ∨ 14 < n ∨ 30 < l.length) : vcode n l = 2 := by unfold vcode; rw [if_pos h]
theorem vcode_bad {n : Int} {l : List (Int × Int)} {k : Nat} (h0 : 0 ≤ n) (h1 : n ≤ 14) (h2 : l.length ≤ 30) (hk : k < l.length) (hb : badPair n (l.getD k (0, 0)) = true) : vcode n l = 3 := by
  unfold vcode
  rw [if_neg (by omega), if_pos]
  rw [List.any_eq_true]
  rw [getD_eq l k _ hk] at hb
  exact ⟨l[k], List.getElem_mem hk, hb⟩
theorem vcode_good {n : Int} {l : List (Int × Int)} (h0 : 0 ≤ n) (h1 : n ≤ 14) (h2 : l.length ≤ 30) (h : Good n l l.length) : vcode n l = 0 := by
  unfold vcode
  rw [if_neg (by omega), if_neg]
  rw [List.any_eq_true]
  rintro ⟨p, hp, hb⟩
  obtain ⟨i, hi, rfl⟩ := List.getElem_of_mem hp
  have := h.out i hi
  rw [getD_eq l i _ hi] at this
  rw [this] at hb
  cases hb
theorem vcode_zero {n : Int} {l : List (Int × Int)} (h : vcode n l = 0) : 0 ≤ n ∧ n ≤ 14 ∧ l.length ≤ 30 ∧ Good n l l.length := by
  unfold vcode at h
  by_cases c : n < 0 ∨ 14 < n ∨ 30 < l.length
  · rw [if_pos c] at h; cases h
  · rw [if_neg c] at h
    by_cases d : l.any (badPair n) = true
    · rw [if_pos d] at h; cases h
    · refine ⟨by omega, by omega, by omega, ⟨fun j hj => ?_⟩⟩
      rw [getD_eq l j _ hj]
      cases e : badPair n l[j]
      · rfl
      · exact absurd (List.any_eq_true.2 ⟨l[j], List.getElem_mem hj, e⟩) d
theorem vcode_cases (n : Int) (l : List (Int × Int)) : vcode n l = 0 ∨ vcode n l = 2 ∨ vcode n l = 3 := by
  unfold vcode
  split
  · exact .inr (.inl rfl)
  · split
    · exact .inr (.inr rfl)
    · exact .inl rfl
theorem badPair_true {n : Int} {p : Int × Int} (h : p.1 < 0 ∨ p.2 < 0 ∨ n ≤ p.1 ∨ n ≤ p.2 ∨ p.1 = p.2) : badPair n p = true := decide_eq_true h
theorem badPair_false {n : Int} {p : Int × Int} (h0 : 0 ≤ p.1) (h1 : 0 ≤ p.2) (h2 : p.1 < n) (h3 : p.2 < n) (h4 : p.1 ≠ p.2) : badPair n p = false := decide_eq_false (by omega)
theorem badPair_of_false {n : Int} {p : Int × Int} (h : badPair n p = false) : 0 ≤ p.1 ∧ 0 ≤ p.2 ∧ p.1 < n ∧ p.2 < n ∧ p.1 ≠ p.2 := by
  have := of_decide_eq_false h
  omega
end Go.Proofs.YtcnecmcbjpehcaaDoor

/- Plain words for lists of numbers and for what lies above what; what the printed functions on them answer. No condition. -/
namespace Go.Proofs.YtcnecmcbjpehcaaDoor
open Go Go.RowKit Go.Proofs.YtcnecmcbjpehcaaDoorW.PrintWords

theorem wrap_up (i : Nat) (h : i ≤ 2000000) : wrap64 ((i : Int) + 1) = ((i + 1 : Nat) : Int) := by
  unfold wrap64
  omega
theorem rd_nat (l : List Int) (i : Nat) : rd l (i : Int) = l.getD i 0 := rfl
theorem take_at (l : List Int) (i : Nat) (h : i < l.length) : l.take (i + 1) = l.take i ++ [l.getD i 0] := by
  rw [List.take_succ_eq_append_getElem h, getD_eq l i 0 h]
theorem sum_take (l : List Int) (i : Nat) (h : i < l.length) : (l.take (i + 1)).sum = (l.take i).sum + l.getD i 0 := by
  rw [take_at l i h, List.sum_append]
  simp
/-- all small: no sum of them wraps -/
def Small (l : List Int) : Prop := l.length ≤ 1000000 ∧ ∀ x, x ∈ l → -1099511627776 ≤ x ∧ x ≤ 1099511627776
theorem Small.get {l : List Int} (h : Small l) (i : Nat) (hi : i < l.length) : -1099511627776 ≤ l.getD i 0 ∧ l.getD i 0 ≤ 1099511627776 := by
  rw [getD_eq l i 0 hi]
  exact h.2 _ (List.getElem_mem hi)
theorem Small.take {l : List Int} (h : Small l) (n : Nat) : Small (l.take n) := ⟨by have := h.1; rw [List.length_take]; omega, fun x hx => h.2 x (List.mem_of_mem_take hx)⟩
theorem Small.sum {l : List Int} (h : Small l) : ∀ i, i ≤ l.length → -(1099511627776 * (i : Int)) ≤ (l.take i).sum ∧ (l.take i).sum ≤ 1099511627776 * (i : Int) := by
  intro i
  induction i with
  | zero => intro _; simp
  | succ i ih =>
    intro hi
    have h1 := ih (by omega)
    have h2 := h.get i (by omega)
    rw [sum_take l i (by omega)]
    omega
theorem Small.sum_all {l : List Int} (h : Small l) : -1099511627776000000 ≤ l.sum ∧ l.sum ≤ 1099511627776000000 := by
  have h1 := h.sum l.length (Nat.le_refl _)
  have h2 := h.1
  rw [List.take_length] at h1
  omega
theorem sum_ev {l : List Int} (h : Small l) : ∀ (d i : Nat), i + d = l.length → Ev (fun k => POrderAbove.demonref1_Sum.l0 k l (l.take i).sum (i : Int)) l.sum := by
  have hl := h.1
  intro d
  induction d with
  | zero =>
    intro i hi
    obtain rfl : i = l.length := by omega
    refine Ev.step (f := fun _ => some l.sum) (fun k => ?_) (Ev.now _)
    simp only [POrderAbove.demonref1_Sum.l0]
    rw [if_neg (by omega), List.take_length]
  | succ d ih =>
    intro i hi
    refine Ev.step (fun k => ?_) (ih (i + 1) (by omega))
    have h1 := h.sum i (by omega)
    have h2 := h.get i (by omega)
    have hw : wrap64 ((l.take i).sum + l.getD i 0) = (l.take (i + 1)).sum := by rw [sum_take l i (by omega)]; unfold wrap64; omega
    simp only [POrderAbove.demonref1_Sum.l0]
    rw [if_pos (by omega), if_pos (by omega), rd_nat, hw, wrap_up i (by omega)]
theorem sum_f {l : List Int} (h : Small l) : Ev (fun k => POrderAbove.demonref1_Sum.f k l) l.sum := sum_ev h l.length 0 (by omega)
theorem total_ev {l : List Int} (h : Small l) : ∀ (d i : Nat), i + d = l.length → Ev (fun k => POrderAbove.dist_Total.l0 k (l.take i).sum l (l.length : Int) (i : Int)) l.sum := by
  have hl := h.1
  intro d
  induction d with
  | zero =>
    intro i hi
    obtain rfl : i = l.length := by omega
    refine Ev.step (f := fun _ => some l.sum) (fun k => ?_) (Ev.now _)
    simp only [POrderAbove.dist_Total.l0]
    rw [if_neg (by omega), List.take_length]
  | succ d ih =>
    intro i hi
    refine Ev.step (fun k => ?_) (ih (i + 1) (by omega))
    have h1 := h.sum i (by omega)
    have h2 := h.get i (by omega)
    have hw : wrap64 ((l.take i).sum + l.getD i 0) = (l.take (i + 1)).sum := by rw [sum_take l i (by omega)]; unfold wrap64; omega
    simp only [POrderAbove.dist_Total.l0]
    rw [if_pos (by omega), if_pos (by omega), if_pos (by omega), rd_nat, hw, wrap_up i (by omega)]
theorem total_f {l : List Int} (h : Small l) : Ev (fun k => POrderAbove.dist_Total.f k l) l.sum := total_ev h l.length 0 (by omega)

/-- a number that no list may hold -/
def badNum (x : Int) : Bool := decide (x < 0) || decide (4096 < x)
/-- from 0 to the greatest weight? -/
def numb (l : List Int) : Bool := !(l.any badNum)
theorem numb_get {l : List Int} (h : numb l = true) (i : Nat) (hi : i < l.length) : 0 ≤ l.getD i 0 ∧ l.getD i 0 ≤ 4096 := by
  unfold numb at h
  rw [Bool.not_eq_true', List.any_eq_false] at h
  have := h l[i] (List.getElem_mem hi)
  rw [getD_eq l i 0 hi]
  simp [badNum] at this
  omega
theorem numb_mem {l : List Int} (h : numb l = true) (x : Int) (hx : x ∈ l) : 0 ≤ x ∧ x ≤ 4096 := by
  unfold numb at h
  rw [Bool.not_eq_true', List.any_eq_false] at h
  have := h x hx
  simp [badNum] at this
  omega
theorem numb_small {l : List Int} (h : numb l = true) (hl : l.length ≤ 1000000) : Small l := ⟨hl, fun x hx => by have := numb_mem h x hx; omega⟩
theorem numbers_ev (l : List Int) (hl : l.length ≤ 2000000) : ∀ (d i : Nat), i + d = l.length → (l.take i).any badNum = false → Ev (fun k => POrderAbove.demonref4_Numbers.l0 k l (i : Int)) (numb l) := by
  intro d
  induction d with
  | zero =>
    intro i hi hn
    obtain rfl : i = l.length := by omega
    rw [List.take_length] at hn
    have e : numb l = true := by unfold numb; rw [hn]; rfl
    rw [e]
    refine Ev.step (f := fun _ => some true) (fun k => ?_) (Ev.now _)
    simp only [POrderAbove.demonref4_Numbers.l0]
    rw [if_neg (by omega)]
  | succ d ih =>
    intro i hi hn
    have hil : i < l.length := by omega
    have bad : badNum (l.getD i 0) = true → numb l = false := fun h => by
      unfold numb
      rw [Bool.not_eq_false', List.any_eq_true]
      exact ⟨l[i], List.getElem_mem hil, by rw [getD_eq l i 0 hil] at h; exact h⟩
    by_cases h1 : l.getD i 0 < 0
    · rw [bad (by unfold badNum; rw [decide_eq_true h1, Bool.true_or])]
      refine Ev.step (f := fun _ => some false) (fun k => ?_) (Ev.now _)
      simp only [POrderAbove.demonref4_Numbers.l0]
      rw [if_pos (by omega), if_pos (by omega), rd_nat, if_pos h1]
    · by_cases h2 : l.getD i 0 > 4096
      · rw [bad (by unfold badNum; rw [decide_eq_true h2, Bool.or_true])]
        refine Ev.step (f := fun _ => some false) (fun k => ?_) (Ev.now _)
        simp only [POrderAbove.demonref4_Numbers.l0]
        rw [if_pos (by omega), if_pos (by omega), rd_nat, if_neg h1, if_pos h2]
      · refine Ev.step (fun k => ?_) (ih (i + 1) (by omega) ?_)
        · simp only [POrderAbove.demonref4_Numbers.l0]
          rw [if_pos (by omega), if_pos (by omega), rd_nat, if_neg h1, if_neg h2, wrap_up i (by omega)]
        · rw [take_at l i hil, List.any_append, hn]
          simp only [List.any_cons, List.any_nil, Bool.false_or, Bool.or_false, badNum]
          rw [decide_eq_false h1, decide_eq_false (show ¬ 4096 < l.getD i 0 from h2)]
          rfl
theorem numbers_f (l : List Int) (hl : l.length ≤ 2000000) : Ev (fun k => POrderAbove.demonref4_Numbers.f k l) (numb l) := numbers_ev l hl l.length 0 (by omega) (by simp)

/-- the code of two lists' error -/
def lErr (p q : List Int) : Int := if 16 < p.length ∨ 16 < q.length then 2 else if numb p = true ∧ numb q = true ∧ p.length ≠ 0 ∧ p.length = q.length ∧ p.sum = q.sum then 0 else 3
theorem listsError_f (p q : List Int) (hp : p.length ≤ 2000000) (hq : q.length ≤ 2000000) : Ev (fun k => POrderAbove.demonref4_ListsError.f k p q) (lErr p q) := by
  have two : ∀ b : Bool, b = true → Ev (fun k => POrderAbove.demonref4_ListsError.j0 k p q b) 2 := fun b hb => Ev.step (f := fun _ => some 2) (fun k => by rw [POrderAbove.demonref4_ListsError.j0, if_pos hb]) (Ev.now _)
  have three : ∀ b : Bool, b = true → Ev (fun k => POrderAbove.demonref4_ListsError.j1 k p q b) 3 := fun b hb => Ev.step (f := fun _ => some 3) (fun k => by rw [POrderAbove.demonref4_ListsError.j1, if_pos hb]) (Ev.now _)
  unfold lErr
  by_cases c1 : (p.length : Int) > 16
  · rw [if_pos (.inl (by omega))]
    exact Ev.congr (fun k => by unfold POrderAbove.demonref4_ListsError.f; rw [if_pos c1]) (two true rfl)
  by_cases c2 : (q.length : Int) > 16
  · rw [if_pos (.inr (by omega))]
    exact Ev.congr (fun k => by unfold POrderAbove.demonref4_ListsError.f; rw [if_neg c1]) (two _ (decide_eq_true c2))
  rw [if_neg (by omega)]
  refine Ev.congr (f := fun k => POrderAbove.demonref4_ListsError.j0 k p q (decide ((q.length : Int) > 16))) (fun k => by unfold POrderAbove.demonref4_ListsError.f; rw [if_neg c1]) ?_
  refine Ev.step (fun k => by rw [POrderAbove.demonref4_ListsError.j0, if_neg (by simp; omega)]) (Ev.bind (numbers_f p hp) (Ev.bind (numbers_f q hq) ?_))
  by_cases h1 : numb p = true
  · by_cases h2 : numb q = true
    · by_cases h3 : (p.length : Int) = 0
      · rw [if_neg (fun g => g.2.2.1 (by omega))]
        exact Ev.congr (fun k => by rw [if_pos h1, if_pos h2, if_pos h3]) (three true rfl)
      · refine Ev.congr (f := fun k => POrderAbove.demonref4_ListsError.j1 k p q ((p.length : Int) != (q.length : Int))) (fun k => by rw [if_pos h1, if_pos h2, if_neg h3]) ?_
        by_cases h4 : (p.length : Int) = (q.length : Int)
        · have hsp := sum_f (numb_small h1 (by omega))
          have hsq := sum_f (numb_small h2 (by omega))
          refine Ev.step (fun k => by rw [POrderAbove.demonref4_ListsError.j1, if_neg (by rw [h4]; simp)]) (Ev.bind hsp (Ev.bind hsq ?_))
          by_cases h5 : p.sum = q.sum
          · have e : (if numb p = true ∧ numb q = true ∧ p.length ≠ 0 ∧ p.length = q.length ∧ p.sum = q.sum then (0 : Int) else 3) = 0 := if_pos ⟨h1, h2, by omega, by omega, h5⟩
            rw [e]
            exact Ev.congr (fun k => by rw [if_pos h5]) (Ev.now _)
          · have e : (if numb p = true ∧ numb q = true ∧ p.length ≠ 0 ∧ p.length = q.length ∧ p.sum = q.sum then (0 : Int) else 3) = 3 := if_neg (fun g => h5 g.2.2.2.2)
            rw [e]
            exact Ev.congr (fun k => by rw [if_neg h5]) (Ev.now _)
        · rw [if_neg (fun g => h4 (by have := g.2.2.2.1; omega))]
          exact three _ (by rw [bne_iff_ne]; exact h4)
    · rw [if_neg (fun g => h2 g.2.1)]
      exact Ev.congr (fun k => by rw [if_pos h1, if_neg h2]) (three true rfl)
  · rw [if_neg (fun g => h1 g.1)]
    exact Ev.congr (fun k => by rw [if_neg h1]) (three true rfl)

/-- the numbers in order -/
def sorted (l : List Int) : List Int := l.mergeSort fun x y => decide (x ≤ y)
theorem sorted_length (l : List Int) : (sorted l).length = l.length := List.length_mergeSort l
theorem sorted_perm (l : List Int) : (sorted l).Perm l := List.mergeSort_perm l _
theorem sorted_le (l : List Int) : (sorted l).Pairwise (fun a b => a ≤ b) := by
  have h := List.pairwise_mergeSort (le := fun (x y : Int) => decide (x ≤ y)) (fun a b c h1 h2 => by simp at *; omega) (fun a b => by simp; omega) l
  exact h.imp fun h => by simpa using h
/-- the greatest first -/
def falls (l : List Int) : List Int := (sorted l).reverse
theorem falls_length (l : List Int) : (falls l).length = l.length := by unfold falls; rw [List.length_reverse, sorted_length]
theorem falls_perm (l : List Int) : (falls l).Perm l := (List.reverse_perm _).trans (sorted_perm l)
theorem falls_desc (l : List Int) : (falls l).Pairwise (fun a b => b ≤ a) := by
  unfold falls
  rw [List.pairwise_reverse]
  exact sorted_le l
theorem falls_unique {l m : List Int} (hp : m.Perm l) (hd : m.Pairwise (fun a b => b ≤ a)) : m = falls l :=
  List.Perm.eq_of_pairwise (le := fun a b => b ≤ a) (fun a b _ _ h1 h2 => by omega) hd (falls_desc l) (hp.trans (falls_perm l).symm)
theorem falls_numb {l : List Int} (h : numb l = true) : numb (falls l) = true := by
  unfold numb
  rw [Bool.not_eq_true', List.any_eq_false]
  intro x hx
  have := numb_mem h x ((falls_perm l).mem_iff.1 hx)
  simp [badNum]
  omega
/-- put in behind all that are not less -/
def insD : List Int → Int → List Int
  | [], x => [x]
  | y :: ys, x => if x ≤ y then y :: insD ys x else x :: y :: ys
theorem insD_perm (x : Int) : ∀ d, (insD d x).Perm (d ++ [x])
  | [] => List.Perm.refl _
  | y :: ys => by
    rw [insD]
    split
    · exact (insD_perm x ys).cons y
    · exact ((List.perm_append_comm (l₁ := [x]) (l₂ := y :: ys)))
theorem insD_mem {x z : Int} {d : List Int} (h : z ∈ insD d x) : z = x ∨ z ∈ d := by
  have := (insD_perm x d).mem_iff.1 h
  rw [List.mem_append, List.mem_singleton] at this
  exact this.symm
theorem insD_desc (x : Int) : ∀ d, d.Pairwise (fun a b => b ≤ a) → (insD d x).Pairwise (fun a b => b ≤ a)
  | [], _ => List.pairwise_singleton _ _
  | y :: ys, h => by
    rw [List.pairwise_cons] at h
    rw [insD]
    split
    · rw [List.pairwise_cons]
      refine ⟨fun z hz => ?_, insD_desc x ys h.2⟩
      rcases insD_mem hz with rfl | hz
      · assumption
      · exact h.1 z hz
    · rename_i hxy
      rw [List.pairwise_cons, List.pairwise_cons]
      refine ⟨fun z hz => ?_, h⟩
      rcases List.mem_cons.1 hz with rfl | hz
      · omega
      · have := h.1 z hz
        omega
theorem insD_at (x : Int) : ∀ (d : List Int) (k : Nat), k ≤ d.length → (∀ j, j < k → x ≤ d.getD j 0) → (k < d.length → d.getD k 0 < x) → d.take k ++ [x] ++ d.drop k = insD d x
  | [], k, _, _, _ => by simp [insD]
  | y :: ys, 0, _, _, h => by
    have : y < x := by simpa using h (by simp)
    rw [insD, if_neg (by omega)]
    rfl
  | y :: ys, k + 1, hk, hj, h => by
    have h0 : x ≤ y := by simpa using hj 0 (by omega)
    rw [insD, if_pos h0, ← insD_at x ys k (by simpa using hk) (fun j hj' => by simpa using hj (j + 1) (by omega)) (fun hk' => by simpa using h (by simpa using hk'))]
    rfl
/-- the reference's way -/
def fallR (l : List Int) : List Int := l.foldl insD []
theorem fold_insD : ∀ (l d : List Int), d.Pairwise (fun a b => b ≤ a) → (l.foldl insD d).Perm (d ++ l) ∧ (l.foldl insD d).Pairwise (fun a b => b ≤ a)
  | [], d, h => ⟨by simp, h⟩
  | x :: l, d, h => by
    obtain ⟨h1, h2⟩ := fold_insD l (insD d x) (insD_desc x d h)
    refine ⟨h1.trans ?_, h2⟩
    have := (insD_perm x d).append_right l
    rwa [List.append_assoc] at this
theorem fallR_eq (l : List Int) : fallR l = falls l := by
  obtain ⟨h1, h2⟩ := fold_insD l [] List.Pairwise.nil
  have h3 : (l.foldl insD []).Perm l := by simpa using h1
  exact falls_unique h3 h2
theorem falling_ev (l : List Int) (hl : l.length ≤ 1000000) : ∀ (e i : Nat), i + e = l.length → Ev (fun k => POrderAbove.demonref4_Falling.l0 k l ((l.take i).foldl insD []) (i : Int)) (fallR l) := by
  intro e
  induction e with
  | zero =>
    intro i hi
    obtain rfl : i = l.length := by omega
    rw [List.take_length]
    refine Ev.step (f := fun _ => some (fallR l)) (fun k => ?_) (Ev.now _)
    simp only [POrderAbove.demonref4_Falling.l0]
    rw [if_neg (by omega)]
    rfl
  | succ e ih =>
    intro i hi
    have hil : i < l.length := by omega
    have hdl : ((l.take i).foldl insD []).length = i := by
      have := (fold_insD (l.take i) [] List.Pairwise.nil).1.length_eq
      rw [List.nil_append, List.length_take] at this
      omega
    have hnx : (l.take (i + 1)).foldl insD [] = insD ((l.take i).foldl insD []) (l.getD i 0) := by rw [take_at l i hil, List.foldl_append]; rfl
    have hih := ih (i + 1) (by omega)
    rw [hnx] at hih
    generalize (l.take i).foldl insD [] = d at hdl hih ⊢
    have inner : ∀ (c j : Nat), j + c = d.length → (∀ a, a < j → l.getD i 0 ≤ d.getD a 0) → Ev (fun k => POrderAbove.demonref4_Falling.l1 k l d (i : Int) (j : Int)) (fallR l) := by
      intro c
      induction c with
      | zero =>
        intro j hj ha
        obtain rfl : j = d.length := by omega
        have hins := insD_at (l.getD i 0) d d.length (Nat.le_refl _) ha (fun h => absurd h (Nat.lt_irrefl _))
        rw [← hins] at hih
        refine Ev.step (fun k => ?_) hih
        simp only [POrderAbove.demonref4_Falling.l1]
        rw [if_neg (by omega), if_pos (by omega), if_pos (by omega), Option.bind_some, if_pos (by simp; omega), Option.bind_some, if_pos (by omega), if_pos (by omega), if_pos (by simp; omega), Option.bind_some, Option.bind_some, if_pos (by simp; omega), rd_nat, wrap_up i (by omega), Int.toNat_natCast, List.nil_append]
      | succ c ihc =>
        intro j hj ha
        have hjd : j < d.length := by omega
        by_cases hc : d.getD j 0 ≥ l.getD i 0
        · refine Ev.step (fun k => ?_) (ihc (j + 1) (by omega) (fun a haj => ?_))
          · simp only [POrderAbove.demonref4_Falling.l1]
            rw [if_pos (by omega), if_pos (by omega), if_pos (by omega), if_pos (by omega), rd_nat, rd_nat, if_pos hc, wrap_up j (by omega)]
          · rcases Nat.lt_or_ge a j with h | h
            · exact ha a h
            · obtain rfl : a = j := by omega
              exact hc
        · have hins := insD_at (l.getD i 0) d j (by omega) ha (fun _ => by omega)
          rw [← hins] at hih
          refine Ev.step (fun k => ?_) hih
          simp only [POrderAbove.demonref4_Falling.l1]
          rw [if_pos (by omega), if_pos (by omega), if_pos (by omega), if_pos (by omega), rd_nat, rd_nat, if_neg hc, if_pos (by omega), Option.bind_some, if_pos (by simp; omega), Option.bind_some, if_pos (by simp; omega), Option.bind_some, Option.bind_some, if_pos (by simp; omega), wrap_up i (by omega), Int.toNat_natCast, List.nil_append]
    refine Ev.step (fun k => ?_) (inner d.length 0 (by omega) (fun a h => absurd h (Nat.not_lt_zero _)))
    simp only [POrderAbove.demonref4_Falling.l0]
    rw [if_pos (by omega)]
    rfl
theorem falling_f (l : List Int) (hl : l.length ≤ 1000000) : Ev (fun k => POrderAbove.demonref4_Falling.f k l) (falls l) := by
  have := falling_ev l hl l.length 0 (by omega)
  rw [fallR_eq] at this
  exact this
/-- of the first k the sums of both lists -/
def aboveTo (a b : List Int) (n : Nat) : Bool := (List.range n).all fun k => decide ((b.take k).sum ≤ (a.take k).sum)
def aboveB (p q : List Int) : Bool := aboveTo (falls p) (falls q) (p.length + 1)
theorem aboveTo_succ (a b : List Int) (n : Nat) : aboveTo a b (n + 1) = (aboveTo a b n && decide ((b.take n).sum ≤ (a.take n).sum)) := by
  unfold aboveTo
  rw [List.range_succ, List.all_append]
  simp
theorem aboveTo_false {a b : List Int} {n m : Nat} (h : ¬ (b.take n).sum ≤ (a.take n).sum) (hn : n < m) : aboveTo a b m = false := by
  unfold aboveTo
  rw [List.all_eq_false]
  exact ⟨n, List.mem_range.2 hn, by simp; omega⟩
theorem isAbove_l0 {a b : List Int} (ha : Small a) (hb : Small b) (hab : a.length = b.length) : ∀ (e k0 : Nat), k0 + e = a.length + 1 → aboveTo a b k0 = true → Ev (fun k => POrderAbove.demonref4_IsAbove.l0 k a b (k0 : Int)) (aboveTo a b (a.length + 1)) := by
  have hl := ha.1
  intro e
  induction e with
  | zero =>
    intro k0 hk h
    obtain rfl : k0 = a.length + 1 := by omega
    rw [h]
    refine Ev.step (f := fun _ => some true) (fun k => ?_) (Ev.now _)
    simp only [POrderAbove.demonref4_IsAbove.l0]
    rw [if_neg (by omega)]
  | succ e ih =>
    intro k0 hk h
    have h1 := sum_f (ha.take k0)
    have h2 := sum_f (hb.take k0)
    by_cases hc : (a.take k0).sum < (b.take k0).sum
    · rw [aboveTo_false (by omega) (by omega : k0 < a.length + 1)]
      refine Ev.step (f := fun k => (POrderAbove.demonref1_Sum.f k (a.take k0)).bind fun t => if (k0 : Int) ≤ (b.length : Int) then (POrderAbove.demonref1_Sum.f k (b.take k0)).bind fun s => if t < s then some false else POrderAbove.demonref4_IsAbove.l0 k a b (wrap64 ((k0 : Int) + 1)) else none) (fun k => ?_) (Ev.bind h1 (Ev.congr (fun k => by rw [if_pos (by omega)]) (Ev.bind h2 (Ev.congr (fun k => by rw [if_pos hc]) (Ev.now _)))))
      simp only [POrderAbove.demonref4_IsAbove.l0]
      rw [if_pos (by omega), if_pos (by omega), Int.toNat_natCast]
    · have hih := ih (k0 + 1) (by omega) (by rw [aboveTo_succ, h, decide_eq_true (by omega)]; rfl)
      rw [← wrap_up k0 (by omega)] at hih
      refine Ev.step (f := fun k => (POrderAbove.demonref1_Sum.f k (a.take k0)).bind fun t => if (k0 : Int) ≤ (b.length : Int) then (POrderAbove.demonref1_Sum.f k (b.take k0)).bind fun s => if t < s then some false else POrderAbove.demonref4_IsAbove.l0 k a b (wrap64 ((k0 : Int) + 1)) else none) (fun k => ?_) (Ev.bind h1 (Ev.congr (fun k => by rw [if_pos (by omega)]) (Ev.bind h2 (Ev.congr (fun k => by rw [if_neg hc]) hih))))
      simp only [POrderAbove.demonref4_IsAbove.l0]
      rw [if_pos (by omega), if_pos (by omega), Int.toNat_natCast]
theorem falls_small {l : List Int} (h : Small l) : Small (falls l) := ⟨by rw [falls_length]; exact h.1, fun x hx => h.2 x ((falls_perm l).mem_iff.1 hx)⟩
theorem isAbove_f {p q : List Int} (hp : Small p) (hq : Small q) (hpq : p.length = q.length) : Ev (fun k => POrderAbove.demonref4_IsAbove.f k p q) (aboveB p q) := by
  refine Ev.bind (falling_f p hp.1) (Ev.bind (falling_f q hq.1) ?_)
  have := isAbove_l0 (falls_small hp) (falls_small hq) (by rw [falls_length, falls_length, hpq]) (p.length + 1) 0 (by rw [falls_length]; omega) rfl
  rwa [falls_length] at this
end Go.Proofs.YtcnecmcbjpehcaaDoor

/- Clone, Sort, Reverse of whole numbers in our words (over the laid contracts). No condition. -/
namespace Go.Proofs.YtcnecmcbjpehcaaDoor
open Go.RowKit Go.Deep Go.Sort

theorem grown_of_below {w w' : World} (h : Below w.heap.size w w') : w.grownBy w' none := ⟨h.os, h.tape, h.output, h.size, fun k hk _ => h.block k hk⟩
theorem own_below {w w' : World} {base e size n : Nat} {v : Value} {xs : List Value} (h : w.ownsRow base e size v n xs) (hb : Below w.heap.size w w') : w'.ownsRow base e size v n xs := h.kept (grown_of_below hb) (by cases v.ownBlock <;> simp)
theorem own_ints {w : World} {base n c e : Nat} {A : Option Addr} {l : List Int} (h : w.ownsRow base e 1 (.slice A n c) n (intCells l)) (hn : l.length = n) : Ints w A l := by
  subst hn
  exact Ints.own h
theorem own_list {w : World} {base e : Nat} {v : Value} {n : Nat} {l : List Int} (h : w.ownsRow base e 1 v n (intCells l)) : w.ownsRow base e 1 v l.length (intCells l) := by
  have : n = l.length := by have := h.1; rw [intCells_length] at this; omega
  rw [← this]; exact h
theorem ints_one {w : World} {b : Nat} {y : Int} (hb : b < w.heap.size) (h : w.cell? ⟨b, 0, none⟩ = some (.int .i64 y)) : Ints w (some ⟨b, 0, none⟩) [y] :=
  ⟨by simp, fun i hi => by
    obtain rfl : i = 0 := by simp at hi; omega
    exact ⟨b, 0, rfl, hb, h⟩⟩
/-- a copy that the call owns -/
theorem clone_ok (A : Option Addr) (l : List Int) (c : Nat) (w : World) (hA : Ints w A l) (h0 : 0 < l.length) (hl : l.length ≤ 2000000) :
    Calls Tryd.prog 40 #[.slice A l.length c] w fun e w' => ∃ g d, e = .returned (.slice (some ⟨g, 0, none⟩) l.length d) ∧ w.heap.size ≤ g ∧ l.length ≤ d ∧ w'.ownsRow w.heap.size 3 1 (.slice (some ⟨g, 0, none⟩) l.length d) l.length (intCells l) ∧ Below w.heap.size w w' := by
  obtain ⟨b, off, rfl, _, _⟩ := hA.at_ 0 h0
  have hc : ∀ j, j < l.length → w.cell? ⟨b, off + j, none⟩ = some (.int .i64 (l.getD j 0)) := fun j hj => by
    obtain ⟨b1, off1, e, _, h⟩ := hA.at_ j hj
    injection e with e
    injection e with e1 e2 _
    subst e1 e2
    exact h
  refine (Tryd.slices_Clone_int b off l.length c l w (Nat.le_refl _) (by omega) hc).mono ?_
  rintro e w' ⟨v, rfl, ho, hne, hb⟩
  rw [List.take_length] at ho
  obtain ⟨g, d, rfl, hg, _, hd, _⟩ := Lib.holds_of_ownsRow ho hne
  exact ⟨g, d, rfl, hg, hd, ho, hb⟩
/-- put in order in its place -/
theorem sort_ok (base g n d : Nat) (l : List Int) (w0 w : World) (hg : base ≤ g) (ho : w.ownsRow base 3 1 (.slice (some ⟨g, 0, none⟩) n d) n (intCells l)) (hb : Below base w0 w) (hl : l.length ≤ 2000000) :
    Calls Tryd.prog 59 #[.slice (some ⟨g, 0, none⟩) n d] w fun e w' => e = .returned (.tuple #[]) ∧ w'.ownsRow base 3 1 (.slice (some ⟨g, 0, none⟩) n d) n (intCells (sorted l)) ∧ Below base w0 w' := by
  obtain ⟨g', d', e0, _, hgl, _, _, hln, hH⟩ := Lib.holds_of_ownsRow (enc := Value.int .i64) ho (by simp)
  injection e0 with e1 e2 e3
  injection e1 with e1
  injection e1 with e1
  subst e1 e3
  subst hln
  refine (Tryd.slices_Sort_int g 0 d l w hH hgl (by omega)).mono ?_
  rintro e w' ⟨rfl, q, os, rfl⟩
  have h1 := Lib.ownsRow_putRow (enc := Value.int .i64) (q := q) (ys := sorted l) (k := l.length) ho (sorted_length l) (Nat.le_refl _)
  have h2 := Lib.below_putRow (enc := Value.int .i64) (q := q) (d := (sorted l).toArray) hb hg
  rw [List.take_of_length_le (by rw [sorted_length]; omega)] at h1
  exact ⟨rfl, Lib.ownsRow_grow h1 0 os, h2.trans (Lib.below_grow base _ (Nat.le_of_lt (Nat.lt_of_le_of_lt hg (h1.lt g rfl).2)) 0 os)⟩
/-- turned round in its place -/
theorem reverse_ok (base g n d : Nat) (l : List Int) (w0 w : World) (hg : base ≤ g) (ho : w.ownsRow base 3 1 (.slice (some ⟨g, 0, none⟩) n d) n (intCells l)) (hb : Below base w0 w) (hl : l.length ≤ 2000000) :
    Calls Tryd.prog 60 #[.slice (some ⟨g, 0, none⟩) n d] w fun e w' => e = .returned (.tuple #[]) ∧ w'.ownsRow base 3 1 (.slice (some ⟨g, 0, none⟩) n d) n (intCells l.reverse) ∧ Below base w0 w' := by
  obtain ⟨g', d', e0, _, hgl, _, _, hln, hH⟩ := Lib.holds_of_ownsRow (enc := Value.int .i64) ho (by simp)
  injection e0 with e1 e2 e3
  injection e1 with e1
  injection e1 with e1
  subst e1 e3
  subst hln
  refine (Tryd.slices_Reverse_int g 0 d l w hH (by omega)).mono ?_
  rintro e w' ⟨rfl, q, rfl⟩
  have h1 := Lib.ownsRow_putRow (enc := Value.int .i64) (q := q) (ys := l.reverse) (k := l.length) ho (by simp) (Nat.le_refl _)
  rw [List.take_of_length_le (by simp)] at h1
  exact ⟨rfl, h1, Lib.below_putRow (enc := Value.int .i64) (q := q) hb hg⟩
end Go.Proofs.YtcnecmcbjpehcaaDoor

/- Between our words for memory and those of the printed texts: a slice that reads as a list, a table. No condition. -/
namespace Go.Proofs.YtcnecmcbjpehcaaDoor
open Go.RowKit Go.Deep Go.Proofs.YtcnecmcbjpehcaaDoorW.PrintWords

theorem Ints.toC {w : World} {A : Option Addr} {l : List Int} (h : Ints w A l) : Kd.C (Kd.int .i64) w A l.length l := by
  refine ⟨rfl, h.len, fun hn => ?_⟩
  obtain ⟨b, off, rfl, _, _⟩ := h.at_ 0 hn
  refine ⟨_, rfl, fun j p hj => ⟨[.int .i64 p], rfl, rfl, fun i u hu => ?_⟩⟩
  have hjl : j < l.length := by
    rcases Nat.lt_or_ge j l.length with h1 | h1
    · exact h1
    · rw [List.getElem?_eq_none h1] at hj; cases hj
  obtain ⟨b', off', e, _, hc⟩ := h.at_ j hjl
  injection e with e
  injection e with e1 e2 _
  subst e1 e2
  have hi : i = 0 := by
    rcases Nat.eq_zero_or_pos i with h1 | h1
    · exact h1
    · rw [List.getElem?_eq_none (by simp; omega)] at hu; cases hu
  subst hi
  rw [addr_add]
  have hp : l.getD j 0 = p := by rw [List.getD_eq_getElem?_getD, hj]; rfl
  rw [hp] at hc
  simp at hu
  subst hu
  show w.cell? ⟨b, off + (j * 1 + 0), none⟩ = _
  rw [Nat.mul_one, Nat.add_zero]
  exact hc
theorem Ints.ofC {w : World} {g off : Nat} {l : List Int} (h : Kd.C (Kd.int .i64) w (some ⟨g, off, none⟩) l.length l) : Ints w (some ⟨g, off, none⟩) l :=
  ⟨h.2.1, fun i hi => by
    obtain ⟨ad, c, e, _, hK, hc⟩ := Kd.C_get h 0 i (by omega) (by omega)
    obtain rfl := Option.some.inj e
    have hK' : c = [.int .i64 (l.getD i 0)] := hK
    subst hK'
    have h1 := hc 0 _ rfl
    rw [addr_add] at h1
    have h2 : w.cell? ⟨g, off + i, none⟩ = some (.int .i64 (l.getD i 0)) := by
      have e1 : off + ((i : Int).toNat * (Kd.int IntKind.i64).sz + 0) = off + i := by
        show off + ((i : Int).toNat * 1 + 0) = off + i
        omega
      rw [e1] at h1
      exact h1
    exact ⟨g, off, rfl, World.block_lt_of_cell? w _ h2, h2⟩⟩
theorem Ints.ofR {w : World} {e base : Nat} {ok : Nat → Prop} {v : Value} {l : List Int} (h : Kd.R (Kd.int .i64) e w base ok v l) : ∃ A c, v = .slice A l.length c ∧ Ints w A l ∧ l.length ≤ c := by
  obtain ⟨A, c, rfl, hc, hC⟩ := Kd.R_reads h
  refine ⟨A, c, rfl, ?_, hc⟩
  rcases Nat.eq_zero_or_pos l.length with h0 | h0
  · rw [List.eq_nil_of_length_eq_zero h0]; exact Ints.nil w A
  · obtain ⟨g, cap, e1, _⟩ := Kd.R_form h h0
    injection e1 with e1
    subst e1
    exact Ints.ofC hC
theorem Lists.toC {w : World} {A : Option Addr} {l : List (List Int)} (h : Lists w A l) : Kd.C (Kd.slice 3 (Kd.int .i64)) w A l.length l := by
  refine ⟨rfl, h.len, fun hn => ?_⟩
  obtain ⟨b, off, _, _, rfl, _⟩ := h.at_ 0 hn
  refine ⟨_, rfl, fun j p hj => ?_⟩
  have hjl : j < l.length := by
    rcases Nat.lt_or_ge j l.length with h1 | h1
    · exact h1
    · rw [List.getElem?_eq_none h1] at hj; cases hj
  obtain ⟨b', off', A', c, e, _, hc, hle, hI⟩ := h.at_ j hjl
  injection e with e
  injection e with e1 e2 _
  subst e1 e2
  have hp : l.getD j [] = p := by rw [List.getD_eq_getElem?_getD, hj]; rfl
  rw [hp] at hc hle hI
  refine ⟨[.slice A' p.length c], rfl, ⟨A', c, rfl, hle, hI.toC⟩, fun i u hu => ?_⟩
  have hi : i = 0 := by
    rcases Nat.eq_zero_or_pos i with h1 | h1
    · exact h1
    · rw [List.getElem?_eq_none (by simp; omega)] at hu; cases hu
  subst hi
  simp at hu
  subst hu
  rw [addr_add]
  show w.cell? ⟨b, off + (j * 1 + 0), none⟩ = _
  rw [Nat.mul_one, Nat.add_zero]
  exact hc
theorem Lists.ofR {w : World} {e base : Nat} {ok : Nat → Prop} {v : Value} {l : List (List Int)} (h : Kd.R (Kd.slice 3 (Kd.int .i64)) e w base ok v l) : ∃ A c, v = .slice A l.length c ∧ Lists w A l ∧ l.length ≤ c := by
  obtain ⟨A, c, rfl, hc, hC⟩ := Kd.R_reads h
  refine ⟨A, c, rfl, ?_, hc⟩
  rcases Nat.eq_zero_or_pos l.length with h0 | h0
  · rw [List.eq_nil_of_length_eq_zero h0]; exact Lists.nil w A
  · obtain ⟨g, cap, e1, _⟩ := Kd.R_form h h0
    injection e1 with e1
    subst e1
    refine ⟨hC.2.1, fun i hi => ?_⟩
    obtain ⟨_, inner, ho, hr⟩ := h
    have hp : l[i]? = some (l.getD i []) := by rw [List.getD_eq_getElem?_getD, List.getElem?_eq_getElem hi]; rfl
    obtain ⟨u, hu, hR⟩ := hr.2 i _ hp
    obtain ⟨A', c', rfl, hI, hle⟩ := Ints.ofR hR
    have hin : inner[i]? = some (.slice A' (l.getD i []).length c') := by
      have h1 : ((inner.drop (i * 1)).take 1)[0]? = some (.slice A' (l.getD i []).length c') := by
        have : ((inner.drop (i * 1)).take 1) = [.slice A' (l.getD i []).length c'] := hu
        rw [this]
        rfl
      rw [List.getElem?_take_of_lt (by omega), List.getElem?_drop, Nat.mul_one, Nat.add_zero] at h1
      exact h1
    have hcell : w.cell? ⟨g, 0 + i, none⟩ = some (.slice A' (l.getD i []).length c') := by
      have := ho.cells (g := g) rfl i _ hin
      rw [addr_add] at this
      exact this
    exact ⟨g, 0, A', c', rfl, World.block_lt_of_cell? w _ hcell, hcell, hle, hI⟩
theorem drawn_below {w w' : World} (h : Drawn0 w w') : Below w.heap.size w w' := by
  obtain ⟨n, rfl⟩ := h
  exact below_drewN' (Below.refl _ _) n
theorem rd_getD (l : List Int) (i : Nat) : rd l (i : Int) = l.getD i 0 := rfl
end Go.Proofs.YtcnecmcbjpehcaaDoor
