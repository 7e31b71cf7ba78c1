/- Words, plain laws and walks behind the law OrderParts, part 2. No condition. -/
import Derived.Shelf.Sort.Plain
import Derived.Shelf.Slices.Turned
import Derived.Shelf.Slices.Reverse
import Derived.Ground.Names2Prog
import Derived.Shelf.Slices.Clone
import Derived.Shelf.Slices.In.SortNone
import Derived.Test.YtcnecmcbjpehcaaDoorProg
import Derived.Test.YtcnecmcbjpehcaaDoorFlatOrderPartsa
import Derived.Lib.OwnBridge
import Derived.Lib.AppendIntMem
import Derived.Deep.Strs
import Derived.Test.YtcnecmcbjpehcaaDoorPOrderSpreadx0
import Derived.Test.YtcnecmcbjpehcaaDoorPOrderSpreadx8
import Derived.Test.YtcnecmcbjpehcaaDoorWWords
import Derived.Test.YtcnecmcbjpehcaaDoorWApart
import Derived.BigRegion

/-
  DERIVED: THE SHELF's CONTRACTS AT THIS DUMP, IN PLAIN WORDS (tools/lay-plain.mjs out of 'TrydoShelf.lean', which tools/lay-shelf.mjs wrote): THE SAME DECLARATIONS UNDER THE SAME NAMES: 'import', 'namespace', 'open', 'def', 'theorem' AND NOTHING ELSE: no command of the shelf's: FOR A HAND-IN. Each laying: the table of numbers ('.._ren') and one theorem, a field a fact of the dump's own or the kernel's comparison; each contract: ONE APPLICATION.
-/
namespace Go.Proofs
open Go.Shelf
def Tryd.lays189_ren : Go.Shelf.Ren := ⟨fun | 189 => 59 | 125 => 75 | 257 => 74 | 128 => 90 | 129 => 91 | 294 => 81 | 295 => 82 | 296 => 83 | 297 => 84 | 298 => 85 | 299 => 86 | 216 => 87 | 300 => 88 | 301 => 89 | 328 => 93 | 329 => 94 | 330 => 95 | 331 => 96 | 332 => 97 | 215 => 98 | 343 => 100 | n => n, fun | 28 => 25 | 3 => 3 | 46 => 115 | 0 => 0 | 51 => 144 | 53 => 146 | 4 => 4 | 183 => 136 | 182 => 135 | 131 => 141 | 5 => 5 | 9 => 9 | 218 => 147 | 222 => 151 | 228 => 153 | 229 => 73 | n => n, fun | n => n⟩
theorem Tryd.lays189 : Go.Proofs.Lays.n189 Tryd.prog Tryd.lays189_ren := {
  mixed := by kernel_rfl
  f125 := Tryd.func75.trans (congrArg some (by kernel_rfl))
  f128 := Tryd.func90.trans (congrArg some (by kernel_rfl))
  f129 := Tryd.func91.trans (congrArg some (by kernel_rfl))
  f189 := Tryd.func59.trans (congrArg some (by kernel_rfl))
  f215 := Tryd.func98.trans (congrArg some (by kernel_rfl))
  f216 := Tryd.func87.trans (congrArg some (by kernel_rfl))
  f257 := Tryd.func74.trans (congrArg some (by kernel_rfl))
  f294 := Tryd.func81.trans (congrArg some (by kernel_rfl))
  f295 := Tryd.func82.trans (congrArg some (by kernel_rfl))
  f296 := Tryd.func83.trans (congrArg some (by kernel_rfl))
  f297 := Tryd.func84.trans (congrArg some (by kernel_rfl))
  f298 := Tryd.func85.trans (congrArg some (by kernel_rfl))
  f299 := Tryd.func86.trans (congrArg some (by kernel_rfl))
  f300 := Tryd.func88.trans (congrArg some (by kernel_rfl))
  f301 := Tryd.func89.trans (congrArg some (by kernel_rfl))
  f328 := Tryd.func93.trans (congrArg some (by kernel_rfl))
  f329 := Tryd.func94.trans (congrArg some (by kernel_rfl))
  f330 := Tryd.func95.trans (congrArg some (by kernel_rfl))
  f331 := Tryd.func96.trans (congrArg some (by kernel_rfl))
  f332 := Tryd.func97.trans (congrArg some (by kernel_rfl))
  f343 := Tryd.func100.trans (congrArg some (by kernel_rfl))
  t0 := Tryd.underlying0
  a0 := Tryd.isAgg0
  z0 := Tryd.sizeOf0
  v0 := Tryd.zeroValue0
  t3 := Tryd.underlying3
  a3 := Tryd.isAgg3
  z3 := Tryd.sizeOf3
  v3 := Tryd.zeroValue3
  t4 := Tryd.underlying4
  a4 := Tryd.isAgg4
  z4 := Tryd.sizeOf4
  v4 := Tryd.zeroValue4
  t5 := Tryd.underlying5
  a5 := Tryd.isAgg5
  z5 := Tryd.sizeOf5
  v5 := Tryd.zeroValue5
  t9 := Tryd.underlying9
  a9 := Tryd.isAgg9
  z9 := Tryd.sizeOf9
  v9 := Tryd.zeroValue9
  t28 := Tryd.underlying25
  a28 := Tryd.isAgg25
  z28 := Tryd.sizeOf25
  v28 := Tryd.zeroValue25
  t46 := Tryd.underlying115
  a46 := Tryd.isAgg115
  z46 := Tryd.sizeOf115
  v46 := Tryd.zeroValue115
  t51 := Tryd.underlying144
  a51 := Tryd.isAgg144
  z51 := Tryd.sizeOf144
  v51 := Tryd.zeroValue144
  t53 := Tryd.underlying146
  a53 := Tryd.isAgg146
  z53 := Tryd.sizeOf146
  v53 := Tryd.zeroValue146
  t131 := Tryd.underlying141
  a131 := Tryd.isAgg141
  z131 := Tryd.sizeOf141
  v131 := Tryd.zeroValue141
  t182 := Tryd.underlying135
  a182 := Tryd.isAgg135
  z182 := Tryd.sizeOf135
  v182 := Tryd.zeroValue135
  t183 := Tryd.underlying136
  a183 := Tryd.isAgg136
  z183 := Tryd.sizeOf136
  v183 := Tryd.zeroValue136
  t218 := Tryd.underlying147
  a218 := Tryd.isAgg147
  z218 := Tryd.sizeOf147
  v218 := Tryd.zeroValue147
  t222 := Tryd.underlying151
  a222 := Tryd.isAgg151
  z222 := Tryd.sizeOf151
  v222 := Tryd.zeroValue151
  t228 := Tryd.underlying153
  a228 := Tryd.isAgg153
  z228 := Tryd.sizeOf153
  v228 := Tryd.zeroValue153
  t229 := Tryd.underlying73
  a229 := Tryd.isAgg73
  z229 := Tryd.sizeOf73
  v229 := Tryd.zeroValue73 }
open Go.Sort Go.RowKit in
theorem Tryd.slices_Sort_int (blk off cap : Nat) (zs : List Int) (w : World) (hH : Holds (Value.int .i64) w blk off zs.toArray) (hblk : blk < w.heap.size) (hsz : zs.length < 4611686018427387904) :
    Calls Tryd.prog 59 #[.slice (some ⟨blk, off, none⟩) zs.length cap] w fun e w' =>
      e = .returned (.tuple #[]) ∧ ∃ n os, w' = grow (putRow (Value.int .i64) (Sort.ahead w n) blk off (zs.mergeSort fun x y => decide (x ≤ y)).toArray) os := Any.slices_Sort_int Tryd.lays189 blk off cap zs w hH hblk hsz
def Tryd.lays108_ren : Go.Shelf.Ren := ⟨fun | 108 => 66 | n => n, fun | 28 => 25 | 3 => 3 | 0 => 0 | 4 => 4 | n => n, fun | n => n⟩
theorem Tryd.lays108 : Go.Proofs.Lays.n108 Tryd.prog Tryd.lays108_ren := {
  mixed := by kernel_rfl
  f108 := Tryd.func66.trans (congrArg some (by kernel_rfl))
  t0 := Tryd.underlying0
  a0 := Tryd.isAgg0
  z0 := Tryd.sizeOf0
  v0 := Tryd.zeroValue0
  t3 := Tryd.underlying3
  a3 := Tryd.isAgg3
  z3 := Tryd.sizeOf3
  v3 := Tryd.zeroValue3
  t4 := Tryd.underlying4
  a4 := Tryd.isAgg4
  z4 := Tryd.sizeOf4
  v4 := Tryd.zeroValue4
  t28 := Tryd.underlying25
  a28 := Tryd.isAgg25
  z28 := Tryd.sizeOf25
  v28 := Tryd.zeroValue25 }
open Go.Lib in
/-- slices.Index at []int: "Index returns the index of the first occurrence of v in s, or -1 if not present.": IT RETURNS 'Lib.idxOf (the elements) v'; the world is as it was. 'zs': what the cells behind the slice's address hold (its spare capacity too, if you have it); 'zs.take n': its elements. (LAID: no walk: one application.) -/
theorem Tryd.slices_Index_int (b off n c : Nat) (zs : List Int) (x : Int) (w : World) (hz : n ≤ zs.length) (hbig : n ≤ 9223372036854775807) (hc : ∀ j, j < zs.length → w.cell? ⟨b, off + j, none⟩ = some (.int .i64 (zs.getD j 0))) :
    Calls Tryd.prog 66 #[.slice (some ⟨b, off, none⟩) n c, .int .i64 x] w fun e w' => e = .returned (.int .i64 (Lib.idxOf (zs.take n) x)) ∧ w' = w := Any.slices_Index_int Tryd.lays108 b off n c zs x w hz hbig hc
open Go.Lib in
/-- The same at a slice of length 0, a nil one too: no cell is known, none is asked for. (LAID: no walk: one application.) -/
theorem Tryd.slices_Index_int_empty (a : Option Addr) (c : Nat) (x : Int) (w : World) :
    Calls Tryd.prog 66 #[.slice a 0 c, .int .i64 x] w fun e w' => e = .returned (.int .i64 (Lib.idxOf [] x)) ∧ w' = w := Any.slices_Index_int_empty Tryd.lays108 a c x w
def Tryd.lays107_ren : Go.Shelf.Ren := ⟨fun | 107 => 53 | 108 => 66 | n => n, fun | 28 => 25 | 3 => 3 | 4 => 4 | 0 => 0 | n => n, fun | n => n⟩
theorem Tryd.lays107 : Go.Proofs.Lays.n107 Tryd.prog Tryd.lays107_ren := {
  mixed := by kernel_rfl
  f107 := Tryd.func53.trans (congrArg some (by kernel_rfl))
  f108 := Tryd.func66.trans (congrArg some (by kernel_rfl))
  t0 := Tryd.underlying0
  a0 := Tryd.isAgg0
  z0 := Tryd.sizeOf0
  v0 := Tryd.zeroValue0
  t3 := Tryd.underlying3
  a3 := Tryd.isAgg3
  z3 := Tryd.sizeOf3
  v3 := Tryd.zeroValue3
  t4 := Tryd.underlying4
  a4 := Tryd.isAgg4
  z4 := Tryd.sizeOf4
  v4 := Tryd.zeroValue4
  t28 := Tryd.underlying25
  a28 := Tryd.isAgg25
  z28 := Tryd.sizeOf25
  v28 := Tryd.zeroValue25 }
open Go.Lib in
/-- slices.Contains at []int: "Contains reports whether v is present in s.": IT RETURNS 'elements.contains v'; the world is as it was. ITS CALLEE slices.Index IS MET BY ITS OWN CONTRACT OFF THE SHELF (lay that first): no loop is walked here. (LAID: no walk: one application.) -/
theorem Tryd.slices_Contains_int (b off n c : Nat) (zs : List Int) (x : Int) (w : World) (hz : n ≤ zs.length) (hbig : n ≤ 9223372036854775807) (hc : ∀ j, j < zs.length → w.cell? ⟨b, off + j, none⟩ = some (.int .i64 (zs.getD j 0))) :
    Calls Tryd.prog 53 #[.slice (some ⟨b, off, none⟩) n c, .int .i64 x] w fun e w' => e = .returned (.bool ((zs.take n).contains x)) ∧ w' = w := Any.slices_Contains_int Tryd.lays107 b off n c zs x w hz hbig hc
open Go.Lib in
/-- The same at a slice of length 0, a nil one too. (LAID: no walk: one application.) -/
theorem Tryd.slices_Contains_int_empty (a : Option Addr) (c : Nat) (x : Int) (w : World) :
    Calls Tryd.prog 53 #[.slice a 0 c, .int .i64 x] w fun e w' => e = .returned (.bool false) ∧ w' = w := Any.slices_Contains_int_empty Tryd.lays107 a c x w
def Tryd.lays112_ren : Go.Shelf.Ren := ⟨fun | 112 => 60 | n => n, fun | 28 => 25 | 3 => 3 | 4 => 4 | 0 => 0 | n => n, fun | n => n⟩
theorem Tryd.lays112 : Go.Proofs.Lays.n112 Tryd.prog Tryd.lays112_ren := {
  mixed := by kernel_rfl
  f112 := Tryd.func60.trans (congrArg some (by kernel_rfl))
  t0 := Tryd.underlying0
  a0 := Tryd.isAgg0
  z0 := Tryd.sizeOf0
  v0 := Tryd.zeroValue0
  t3 := Tryd.underlying3
  a3 := Tryd.isAgg3
  z3 := Tryd.sizeOf3
  v3 := Tryd.zeroValue3
  t4 := Tryd.underlying4
  a4 := Tryd.isAgg4
  z4 := Tryd.sizeOf4
  v4 := Tryd.zeroValue4
  t28 := Tryd.underlying25
  a28 := Tryd.isAgg25
  z28 := Tryd.sizeOf25
  v28 := Tryd.zeroValue25 }
open Go.RowKit Go.Lib Go.Sort in
/-- slices.Reverse at []int, over an array: Go's loop from the two ends inward is walked; it makes 'Sort.reverseLoop 0 (len - 1)', which is 'Array.reverse' (Derived/Lib/SlicesMore.lean). (LAID: no walk: one application.) -/
theorem Tryd.slices_Reverse_int_arr (blk off cap : Nat) (d : Array Int) (w : World) (hH : Holds encI w blk off d) (hsz : d.size ≤ 9223372036854775807) :
    Calls Tryd.prog 60 #[.slice (some ⟨blk, off, none⟩) d.size cap] w fun e w' => e = .returned (.tuple #[]) ∧ ∃ n, w' = putRow encI (Sort.ahead w n) blk off d.reverse := Any.slices_Reverse_int_arr Tryd.lays112 blk off cap d w hH hsz
open Go.RowKit Go.Lib Go.Sort in
/-- slices.Reverse at []int: "Reverse reverses the elements of the slice in place.": THE SLICE's CELLS HOLD 'zs.reverse' BEHIND THE CALL; all else is as it was, but for the count of draws (the exchange 's[i], s[j] = s[j], s[i]' draws its order, once a round). IN THE WORDS OF slices.Sort's CONTRACT: 'Holds': the cells hold zs and none is frozen; 'putRow': the world with those cells holding another array. A slice of length 0 that is not nil is among them ('zs = []'); nil: '.._nil'. (LAID: no walk: one application.) -/
theorem Tryd.slices_Reverse_int (blk off cap : Nat) (zs : List Int) (w : World) (hH : Holds (Value.int .i64) w blk off zs.toArray) (hsz : zs.length ≤ 9223372036854775807) :
    Calls Tryd.prog 60 #[.slice (some ⟨blk, off, none⟩) zs.length cap] w fun e w' => e = .returned (.tuple #[]) ∧ ∃ n, w' = putRow (Value.int .i64) (Sort.ahead w n) blk off zs.reverse.toArray := Any.slices_Reverse_int Tryd.lays112 blk off cap zs w hH hsz
open Go.RowKit Go.Lib Go.Sort in
/-- The same at a slice of length 0, a nil one too: nothing is read, nothing written, nothing drawn. (LAID: no walk: one application.) -/
theorem Tryd.slices_Reverse_int_empty (a : Option Addr) (cap : Nat) (w : World) :
    Calls Tryd.prog 60 #[.slice a 0 cap] w fun e w' => e = .returned (.tuple #[]) ∧ w' = w := Any.slices_Reverse_int_empty Tryd.lays112 a cap w
def Tryd.laysNm215_ren : Go.Shelf.Ren := ⟨fun | 15 => 40 | n => n, fun | 22 => 25 | 3 => 3 | 4 => 4 | n => n, fun | n => n⟩
theorem Tryd.laysNm215 : Go.Proofs.Lays2.n15 Tryd.prog Tryd.laysNm215_ren := {
  mixed := by kernel_rfl
  f15 := Tryd.func40.trans (congrArg some (by kernel_rfl))
  t3 := Tryd.underlying3
  a3 := Tryd.isAgg3
  z3 := Tryd.sizeOf3
  v3 := Tryd.zeroValue3
  t4 := Tryd.underlying4
  a4 := Tryd.isAgg4
  z4 := Tryd.sizeOf4
  v4 := Tryd.zeroValue4
  t22 := Tryd.underlying25
  a22 := Tryd.isAgg25
  z22 := Tryd.sizeOf25
  v22 := Tryd.zeroValue25
  i3 := by kernel_rfl }
open Go.RowKit Go.Lib in
/-- slices.Clone at []int: "Clone returns a copy of the slice. The elements are copied using assignment, so this is a shallow clone. The result may have additional unused capacity. The result preserves the nilness of s.": OF A SLICE THAT IS NOT nil IT RETURNS A SLICE THAT IS NOT nil, OF THE SAME ELEMENTS, IN MEMORY OF THE CALL's OWN: in the how-to's words (6f): 'w'.ownsRow B e 1 v' n cells': v' begins at the head of a row among the blocks from B on (B: the heap's size at the call), not frozen, whose first cells are the elements · 'Below B w w'': below B all is as it was. The capacity is whatever the run-time gives. 'zs': what the cells behind the slice's address hold; 'zs.take n': its elements. (LAID: no walk: one application.) -/
theorem Tryd.slices_Clone_int (b off n c : Nat) (zs : List Int) (w : World) (hz : n ≤ zs.length) (hbig : n * 8 ≤ 140737488355328) (hc : ∀ j, j < zs.length → w.cell? ⟨b, off + j, none⟩ = some (.int .i64 (zs.getD j 0))) :
    Calls Tryd.prog 40 #[.slice (some ⟨b, off, none⟩) n c] w fun e w' => ∃ v', e = .returned v' ∧ w'.ownsRow w.heap.size 3 1 v' n ((zs.take n).map (Value.int .i64)) ∧ v' ≠ .slice none 0 0 ∧ Below w.heap.size w w' := Any.slices_Clone_int Tryd.laysNm215 b off n c zs w hz hbig hc
open Go.RowKit Go.Lib in
/-- The same at nil: nil comes back; the world is as it was. (LAID: no walk: one application.) -/
theorem Tryd.slices_Clone_int_nil (n c : Nat) (w : World) :
    Calls Tryd.prog 40 #[.slice none n c] w fun e w' => e = .returned (.slice none 0 0) ∧ w' = w := Any.slices_Clone_int_nil Tryd.laysNm215 n c w
open Go.RowKit Go.Lib in
/-- The same at a slice of length 0 that is not nil, WHATEVER ITS ADDRESS (no cell is asked for): a slice that is not nil and owns nothing comes back. (LAID: no walk: one application.) -/
theorem Tryd.slices_Clone_int_zero (a : Addr) (c : Nat) (w : World) :
    Calls Tryd.prog 40 #[.slice (some a) 0 c] w fun e w' => ∃ v', e = .returned v' ∧ w'.ownsRow w.heap.size 3 1 v' 0 [] ∧ v' ≠ .slice none 0 0 ∧ Below w.heap.size w w' := Any.slices_Clone_int_zero Tryd.laysNm215 a c w
open Go.RowKit Go.Sort in
/-- .. and plain. (LAID: no walk: one application.) -/
theorem Tryd.slices_Sort_int_none (p : Option Addr) (cap : Nat) (w : World) :
    Calls Tryd.prog 59 #[.slice p 0 cap] w fun e w' => e = .returned (.tuple #[]) ∧ w' = w := Any.slices_Sort_int_none Tryd.lays189 p cap w
end Go.Proofs

/- Clone, Sort, Reverse of whole numbers in our words (over the laid contracts). No condition. -/
namespace Go.Proofs.YtcnecmcbjpehcaaDoor
open Go.RowKit Go.Deep Go.Sort

theorem grown_of_below {w w' : World} (h : Below w.heap.size w w') : w.grownBy w' none := ⟨h.os, h.tape, h.output, h.size, fun k hk _ => h.block k hk⟩
theorem own_below {w w' : World} {base e size n : Nat} {v : Value} {xs : List Value} (h : w.ownsRow base e size v n xs) (hb : Below w.heap.size w w') : w'.ownsRow base e size v n xs := h.kept (grown_of_below hb) (by cases v.ownBlock <;> simp)
theorem own_ints {w : World} {base n c e : Nat} {A : Option Addr} {l : List Int} (h : w.ownsRow base e 1 (.slice A n c) n (intCells l)) (hn : l.length = n) : Ints w A l := by
  subst hn
  exact Ints.own h
theorem own_list {w : World} {base e : Nat} {v : Value} {n : Nat} {l : List Int} (h : w.ownsRow base e 1 v n (intCells l)) : w.ownsRow base e 1 v l.length (intCells l) := by
  have : n = l.length := by have := h.1; rw [intCells_length] at this; omega
  rw [← this]; exact h
theorem ints_one {w : World} {b : Nat} {y : Int} (hb : b < w.heap.size) (h : w.cell? ⟨b, 0, none⟩ = some (.int .i64 y)) : Ints w (some ⟨b, 0, none⟩) [y] :=
  ⟨by simp, fun i hi => by
    obtain rfl : i = 0 := by simp at hi; omega
    exact ⟨b, 0, rfl, hb, h⟩⟩
/-- a copy that the call owns -/
theorem clone_ok (A : Option Addr) (l : List Int) (c : Nat) (w : World) (hA : Ints w A l) (h0 : 0 < l.length) (hl : l.length ≤ 2000000) :
    Calls Tryd.prog 40 #[.slice A l.length c] w fun e w' => ∃ g d, e = .returned (.slice (some ⟨g, 0, none⟩) l.length d) ∧ w.heap.size ≤ g ∧ l.length ≤ d ∧ w'.ownsRow w.heap.size 3 1 (.slice (some ⟨g, 0, none⟩) l.length d) l.length (intCells l) ∧ Below w.heap.size w w' := by
  obtain ⟨b, off, rfl, _, _⟩ := hA.at_ 0 h0
  have hc : ∀ j, j < l.length → w.cell? ⟨b, off + j, none⟩ = some (.int .i64 (l.getD j 0)) := fun j hj => by
    obtain ⟨b1, off1, e, _, h⟩ := hA.at_ j hj
    injection e with e
    injection e with e1 e2 _
    subst e1 e2
    exact h
  refine (Tryd.slices_Clone_int b off l.length c l w (Nat.le_refl _) (by omega) hc).mono ?_
  rintro e w' ⟨v, rfl, ho, hne, hb⟩
  rw [List.take_length] at ho
  obtain ⟨g, d, rfl, hg, _, hd, _⟩ := Lib.holds_of_ownsRow ho hne
  exact ⟨g, d, rfl, hg, hd, ho, hb⟩
/-- put in order in its place -/
theorem sort_ok (base g n d : Nat) (l : List Int) (w0 w : World) (hg : base ≤ g) (ho : w.ownsRow base 3 1 (.slice (some ⟨g, 0, none⟩) n d) n (intCells l)) (hb : Below base w0 w) (hl : l.length ≤ 2000000) :
    Calls Tryd.prog 59 #[.slice (some ⟨g, 0, none⟩) n d] w fun e w' => e = .returned (.tuple #[]) ∧ w'.ownsRow base 3 1 (.slice (some ⟨g, 0, none⟩) n d) n (intCells (sorted l)) ∧ Below base w0 w' := by
  obtain ⟨g', d', e0, _, hgl, _, _, hln, hH⟩ := Lib.holds_of_ownsRow (enc := Value.int .i64) ho (by simp)
  injection e0 with e1 e2 e3
  injection e1 with e1
  injection e1 with e1
  subst e1 e3
  subst hln
  refine (Tryd.slices_Sort_int g 0 d l w hH hgl (by omega)).mono ?_
  rintro e w' ⟨rfl, q, os, rfl⟩
  have h1 := Lib.ownsRow_putRow (enc := Value.int .i64) (q := q) (ys := sorted l) (k := l.length) ho (sorted_length l) (Nat.le_refl _)
  have h2 := Lib.below_putRow (enc := Value.int .i64) (q := q) (d := (sorted l).toArray) hb hg
  rw [List.take_of_length_le (by rw [sorted_length]; omega)] at h1
  exact ⟨rfl, Lib.ownsRow_grow h1 0 os, h2.trans (Lib.below_grow base _ (Nat.le_of_lt (Nat.lt_of_le_of_lt hg (h1.lt g rfl).2)) 0 os)⟩
/-- turned round in its place -/
theorem reverse_ok (base g n d : Nat) (l : List Int) (w0 w : World) (hg : base ≤ g) (ho : w.ownsRow base 3 1 (.slice (some ⟨g, 0, none⟩) n d) n (intCells l)) (hb : Below base w0 w) (hl : l.length ≤ 2000000) :
    Calls Tryd.prog 60 #[.slice (some ⟨g, 0, none⟩) n d] w fun e w' => e = .returned (.tuple #[]) ∧ w'.ownsRow base 3 1 (.slice (some ⟨g, 0, none⟩) n d) n (intCells l.reverse) ∧ Below base w0 w' := by
  obtain ⟨g', d', e0, _, hgl, _, _, hln, hH⟩ := Lib.holds_of_ownsRow (enc := Value.int .i64) ho (by simp)
  injection e0 with e1 e2 e3
  injection e1 with e1
  injection e1 with e1
  subst e1 e3
  subst hln
  refine (Tryd.slices_Reverse_int g 0 d l w hH (by omega)).mono ?_
  rintro e w' ⟨rfl, q, rfl⟩
  have h1 := Lib.ownsRow_putRow (enc := Value.int .i64) (q := q) (ys := l.reverse) (k := l.length) ho (by simp) (Nat.le_refl _)
  rw [List.take_of_length_le (by simp)] at h1
  exact ⟨rfl, h1, Lib.below_putRow (enc := Value.int .i64) (q := q) hb hg⟩
end Go.Proofs.YtcnecmcbjpehcaaDoor

/- A slice that reads as moves (triples of whole numbers); append to a row of them; such a slice that came in. No condition. -/
namespace Go.Proofs.YtcnecmcbjpehcaaDoor
open Go.ChangeShapes Go.WideShapes Go.RowKit Go.Deep Go.Joins

/-- the slice at A reads as the moves l -/
structure Trips (w : World) (A : Option Addr) (l : List Mv) : Prop where
  len : l.length ≤ 9223372036854775807
  at_ : ∀ i, i < l.length → ∃ b off, A = some ⟨b, off, none⟩ ∧ b < w.heap.size ∧ w.cell? ⟨b, off + i * 3, none⟩ = some (.int .i64 (l.getD i (0, 0, 0)).1) ∧ w.cell? ⟨b, off + i * 3 + 1, none⟩ = some (.int .i64 (l.getD i (0, 0, 0)).2.1) ∧ w.cell? ⟨b, off + i * 3 + 2, none⟩ = some (.int .i64 (l.getD i (0, 0, 0)).2.2)
theorem Trips.below {w w' : World} {A : Option Addr} {l : List Mv} (h : Trips w A l) (hb : Below w.heap.size w w') : Trips w' A l :=
  ⟨h.len, fun i hi => by
    obtain ⟨b, off, e, h1, h2, h3, h4⟩ := h.at_ i hi
    exact ⟨b, off, e, Nat.lt_of_lt_of_le h1 hb.size, (hb.cell (p := ⟨b, off + i * 3, none⟩) h1).trans h2, (hb.cell (p := ⟨b, off + i * 3 + 1, none⟩) h1).trans h3, (hb.cell (p := ⟨b, off + i * 3 + 2, none⟩) h1).trans h4⟩⟩
theorem Trips.nil (w : World) (A : Option Addr) : Trips w A [] := ⟨by simp, fun i h => absurd h (by simp)⟩
def tripCells (l : List Mv) : List Value := l.flatMap fun p => [Value.int .i64 p.1, Value.int .i64 p.2.1, Value.int .i64 p.2.2]
theorem tripCells_length (l : List Mv) : (tripCells l).length = l.length * 3 := by
  induction l with
  | nil => rfl
  | cons p l ih => simp only [tripCells, List.flatMap_cons, List.length_append, List.length_cons, List.length_nil] at *; omega
theorem tripCells_append (l m : List Mv) : tripCells (l ++ m) = tripCells l ++ tripCells m := by simp [tripCells]
theorem tripCells_one (l : List Mv) : ∀ u ∈ tripCells l, u.oneCell' = true := by
  intro u hu
  simp only [tripCells, List.mem_flatMap, List.mem_cons, List.not_mem_nil, or_false] at hu
  obtain ⟨p, _, rfl | rfl | rfl⟩ := hu <;> rfl
theorem tripCells_at (l : List Mv) : ∀ i, i < l.length → (tripCells l)[i * 3]? = some (.int .i64 (l.getD i (0, 0, 0)).1) ∧ (tripCells l)[i * 3 + 1]? = some (.int .i64 (l.getD i (0, 0, 0)).2.1) ∧ (tripCells l)[i * 3 + 2]? = some (.int .i64 (l.getD i (0, 0, 0)).2.2) := by
  induction l with
  | nil => intro i h; cases h
  | cons p l ih =>
    intro i hi
    have e : tripCells (p :: l) = Value.int .i64 p.1 :: Value.int .i64 p.2.1 :: Value.int .i64 p.2.2 :: tripCells l := rfl
    rw [e]
    cases i with
    | zero => exact ⟨rfl, rfl, rfl⟩
    | succ i =>
      have h := ih i (by simpa using hi)
      rw [show (i + 1) * 3 = i * 3 + 1 + 1 + 1 from by omega]
      simpa only [List.getElem?_cons_succ, List.getD_cons_succ] using h
theorem Trips.reads {w : World} {A : Option Addr} {l : List Mv} (h : Trips w A l) : Reads w w.heap.size 3 A l.length (tripCells l) := by
  refine ⟨by rw [tripCells_length], fun hn => ?_⟩
  obtain ⟨b, off, e, hb, _⟩ := h.at_ 0 hn
  refine ⟨⟨b, off, none⟩, e, hb, fun j u hu => ?_⟩
  have hj : j < l.length * 3 := by
    rcases Nat.lt_or_ge j (l.length * 3) with h1 | h1
    · exact h1
    · rw [List.getElem?_eq_none (by rw [tripCells_length]; exact h1)] at hu; cases hu
  obtain ⟨b', off', e', _, hc1, hc2, hc3⟩ := h.at_ (j / 3) (by omega)
  rw [e] at e'
  injection e' with e'
  injection e' with e1 e2 e3
  subst e1; subst e2
  have hp := tripCells_at l (j / 3) (by omega)
  rw [addr_add]
  have h3 : j % 3 = 0 ∨ j % 3 = 1 ∨ j % 3 = 2 := by omega
  rcases h3 with h2 | h2 | h2
  · rw [show j = j / 3 * 3 from by omega] at hu ⊢
    rw [hp.1] at hu
    exact hc1.trans hu
  · rw [show j = j / 3 * 3 + 1 from by omega] at hu ⊢
    rw [hp.2.1] at hu
    exact hc2.trans hu
  · rw [show j = j / 3 * 3 + 2 from by omega] at hu ⊢
    rw [hp.2.2] at hu
    exact hc3.trans hu
theorem Trips.own {w : World} {base c : Nat} {e : TypeId} {A : Option Addr} {l : List Mv} (h : w.ownsRow base e 3 (.slice A l.length c) l.length (tripCells l)) : Trips w A l := by
  obtain ⟨A', c', hv, _, hm⟩ := own_shape h
  refine ⟨hm, fun i hi => ?_⟩
  rcases h.2 with ⟨hn, h0⟩ | ⟨g, cap, cur, hv, hb, hh, h1, h2, _⟩
  · omega
  · injection hv with hA _ _
    subst hA
    refine ⟨g, 0, rfl, (Array.getElem?_eq_some_iff.1 hh).1, ?_, ?_, ?_⟩
    · have := h.cells (g := g) rfl (i * 3) _ (tripCells_at l i hi).1
      rw [addr_add] at this
      exact this
    · have := h.cells (g := g) rfl (i * 3 + 1) _ (tripCells_at l i hi).2.1
      rw [addr_add] at this
      rw [show 0 + i * 3 + 1 = 0 + (i * 3 + 1) from by omega]
      exact this
    · have := h.cells (g := g) rfl (i * 3 + 2) _ (tripCells_at l i hi).2.2
      rw [addr_add] at this
      rw [show 0 + i * 3 + 2 = 0 + (i * 3 + 2) from by omega]
      exact this
theorem trip_info : (Tryd.prog.info? 62).map (fun i => (i.zero, i.size, i.bytes)) = some (some (.agg #[.int .i64 0, .int .i64 0, .int .i64 0]), 3, 24) := by kernel_rfl
/-- append of a slice of moves onto a row of the call's own -/
theorem wp_app_trips (w : World) {ops : Array Oper} {rest : List Oper} {o : Oper} {a : Act} {Q : Exit → Act → World → Prop} (hgd : o.guard = none) (s x : Operand)
    (ho : o.op = .call { callee := .builtin .append, args := #[s, x], argTypes := #[46, 46] })
    (base : Nat) (v : Value) (l0 : List Mv) (hs : a.eval s = v) (hown : w.ownsRow base 62 3 v l0.length (tripCells l0))
    (A : Option Addr) (m c : Nat) (l : List Mv) (hx : a.eval x = .slice A m c) (hm : m = l.length) (hr : Trips w A l)
    (hbytes : (l0.length + m) * 24 ≤ 140737488355328) (hbase : base ≤ w.heap.size)
    (h : ∀ A' c' w', (l0 ++ l).length ≤ c' → w'.ownsRow base 62 3 (.slice A' (l0 ++ l).length c') (l0 ++ l).length (tripCells (l0 ++ l)) → w.grownBy w' v.ownBlock → ((Value.slice A' (l0 ++ l).length c').ownBlock = v.ownBlock ∨ (Value.slice A' (l0 ++ l).length c').ownBlock = some w.heap.size) →
      wpList Tryd.prog ops Q rest (a.put o.dst (.slice A' (l0 ++ l).length c')) w') : wpList Tryd.prog ops Q (o :: rest) a w := by
  obtain ⟨i0, hi0, hz0, hz1, hz2⟩ := info_parts trip_info
  subst hm
  refine wpList_append_any w hgd s x _ ho base 62 i0 _ 3 24 Tryd.underlying46 hi0 hz0 hz1 hz2 rfl (by omega) v l0.length (tripCells l0) hs hown w.heap.size A l.length c (tripCells l) hx hr.reads (tripCells_one l) (by simp only [maxLen]; omega) hbytes hbase ?_
  intro v' w' h1 h2 h3
  rw [← tripCells_append, ← List.length_append] at h1
  obtain ⟨A', c', rfl, hc, _⟩ := own_shape h1
  exact h A' c' w' hc h1 h2 h3

section
variable {H : Type} {enc : TypeId × Value → H} {P : Program} {W : World} {base : Nat} {held : Bool}
theorem open_trips_gen {t e q : TypeId} {f0 f1 f2 : Field} (ht : P.underlying t = some (.slice e)) (he : P.underlying e = some (.struct #[f0, f1, f2])) (hq : P.underlying q = some (.int .i64)) (c3 : P.cellsOf e = 3) (c1 : P.cellsOf q = 1)
    (t0 : f0.type = q) (t1 : f1.type = q) (t2 : f2.type = q) (o0 : f0.offset = 0) (o1 : f1.offset = 1) (o2 : f2.offset = 2) {fuel : Nat} {v : Value} {y : DataW H × List MemPlace} (h : DataW.trod enc P W base (fun _ => true) held fuel t [v] = some y) :
    ∃ A l cap, v = .slice A l.length cap ∧ Trips W A l ∧ l.length ≤ cap ∧ ∀ p : Mv, p ∈ l → (-9223372036854775808 ≤ p.1 ∧ p.1 ≤ 9223372036854775807) ∧ (-9223372036854775808 ≤ p.2.1 ∧ p.2.1 ≤ 9223372036854775807) ∧ (-9223372036854775808 ≤ p.2.2 ∧ p.2.2 ≤ 9223372036854775807) := by
  rcases open_slice ht h with ⟨hcs, _⟩ | ⟨a, len, cap, m, n, D, Pl, hcs, hb, hl, hm, hmm, _, hx⟩
  · exact ⟨none, [], 0, by simpa using hcs, Trips.nil _ _, Nat.le_refl _, by simp⟩
  · simp only [if_true] at hmm
    subst hmm
    have each : ∀ i, i < len → ∃ p : Mv, W.cell? (a.add (i * 3)) = some (.int .i64 p.1) ∧ W.cell? ((a.add (i * 3)).add 1) = some (.int .i64 p.2.1) ∧ W.cell? ((a.add (i * 3)).add 2) = some (.int .i64 p.2.2) ∧ (-9223372036854775808 ≤ p.1 ∧ p.1 ≤ 9223372036854775807) ∧ (-9223372036854775808 ≤ p.2.1 ∧ p.2.1 ≤ 9223372036854775807) ∧ (-9223372036854775808 ≤ p.2.2 ∧ p.2.2 ≤ 9223372036854775807) := by
      intro i hi
      obtain ⟨cs', hc, htr⟩ := hx i (by omega)
      rw [c3] at hc
      obtain ⟨_, hcl, hat⟩ := World.cells?_some hc
      obtain ⟨z0, z1, z2, m', _, _, e0, e1, e2⟩ := trod_struct3 he htr
      rw [t0, o0, c1] at e0
      rw [t1, o1, c1] at e1
      rw [t2, o2, c1] at e2
      obtain ⟨u0, u1, u2, rfl⟩ : ∃ u0 u1 u2, cs' = [u0, u1, u2] := by
        match cs', hcl with
        | [u0, u1, u2], _ => exact ⟨u0, u1, u2, rfl⟩
      obtain ⟨p0, g0, _, w0⟩ := DataW.trod_int hq e0
      obtain ⟨p1, g1, _, w1⟩ := DataW.trod_int hq e1
      obtain ⟨p2, g2, _, w2⟩ := DataW.trod_int hq e2
      have h0 := hat 0 (by decide)
      have h1 := hat 1 (by decide)
      have h2 := hat 2 (by decide)
      have q0 : u0 = .int .i64 p0 := by
        change [u0] = _ at g0
        injection g0
      have q1 : u1 = .int .i64 p1 := by
        change [u1] = _ at g1
        injection g1
      have q2 : u2 = .int .i64 p2 := by
        change [u2] = _ at g2
        injection g2
      subst q0 q1 q2
      exact ⟨(p0, p1, p2), h0, h1, h2, wf_range w0, wf_range w1, wf_range w2⟩
    obtain ⟨f, hf⟩ := choose_lt each
    have hlen : ((List.range len).map f).length = len := by simp
    refine ⟨some a, (List.range len).map f, m, by rw [hlen]; simpa using hcs, ⟨by rw [hlen]; simp only [maxLen] at hm; omega, fun i hi => ?_⟩, by rw [hlen]; exact hl, fun p hp => ?_⟩
    · rw [hlen] at hi
      obtain ⟨g0, g1, g2, _, _⟩ := hf i hi
      have hs := spot_none (hf 0 (by omega)).1
      rw [hs, addr_add] at g0
      rw [hs, addr_add, addr_add] at g1 g2
      have e : ((List.range len).map f).getD i (0, 0, 0) = f i := by simp [List.getD_eq_getElem?_getD, hi]
      rw [e]
      exact ⟨a.block, a.off, by rw [← hs], World.block_lt_of_cell? W ⟨a.block, a.off + i * 3, none⟩ g0, g0, g1, g2⟩
    · obtain ⟨i, hi, rfl⟩ := List.mem_map.1 hp
      obtain ⟨_, _, _, r0, r1, r2⟩ := hf i (List.mem_range.1 hi)
      exact ⟨r0, r1, r2⟩
theorem open_trips_arg {fuel : Nat} {v : Value} {y : DataW H × List MemPlace} (h : DataW.trod enc Tryd.prog W base (fun _ => true) held fuel 39 [v] = some y) :
    ∃ A l cap, v = .slice A l.length cap ∧ Trips W A l ∧ l.length ≤ cap ∧ ∀ p : Mv, p ∈ l → (-9223372036854775808 ≤ p.1 ∧ p.1 ≤ 9223372036854775807) ∧ (-9223372036854775808 ≤ p.2.1 ∧ p.2.1 ≤ 9223372036854775807) ∧ (-9223372036854775808 ≤ p.2.2 ∧ p.2.2 ≤ 9223372036854775807) :=
  open_trips_gen Tryd.underlying39 Tryd.underlying63 Tryd.underlying3 (by kernel_rfl) (by kernel_rfl) rfl rfl rfl rfl rfl rfl h
end
end Go.Proofs.YtcnecmcbjpehcaaDoor

/- What the print gives of some functions, but for one walk. No condition. -/
namespace Go.Proofs.YtcnecmcbjpehcaaDoor.POrderSpread
open Go.RowKit Go.Proofs.YtcnecmcbjpehcaaDoorW.PrintWords Go.Proofs.YtcnecmcbjpehcaaDoorW.PrintLast Go.Proofs.YtcnecmcbjpehcaaDoorW.PrintMore
attribute [local go_sem] max2_int min2_int max_two min_two max_three min_three max_four min_four   -- for this text's walks alone
set_option linter.unusedVariables false
set_option linter.unusedSimpArgs false

/-! ### demonref1_Sum: function 30 -/
def demonref1_Sum.l0 : Nat → List Int → Int → Int → Option (Int)
  | 0, _, _, _ => none
  | k + 1, x0, x3, x4 => if x4 < (x0.length : Int) then (if 0 ≤ x4 then (demonref1_Sum.l0 k x0 (wrap64 (x3 + (rd x0 x4))) (wrap64 (x4 + 1))) else (none)) else (some x3)
def demonref1_Sum.f (k : Nat) (l0 : List Int) : Option (Int) := demonref1_Sum.l0 k l0 0 0
theorem demonref1_Sum.mono_l : ∀ k, (∀ y0 y1 y2, LeO (demonref1_Sum.l0 k y0 y1 y2) (demonref1_Sum.l0 (k + 1) y0 y1 y2))
  | 0 => fun _ _ _ r h => by simp [demonref1_Sum.l0] at h
  | k + 1 => by
    have ih0 := demonref1_Sum.mono_l k
    · intro y0 y1 y2
      unfold demonref1_Sum.l0
      repeat' first
      | (with_reducible exact ih0 _ _ _)
      | (with_reducible exact LeO.refl _)
      | (with_reducible exact LeO.none _)
      | (with_reducible refine LeO.ite ?_ ?_)
      | (with_reducible refine LeO.bind ?_ (fun _ => ?_))
      | exact ih0 _ _ _
      | exact LeO.none _
      | refine LeO.ite ?_ ?_
      | refine LeO.bind ?_ (fun _ => ?_)
theorem demonref1_Sum.mono : ∀ a0 k, LeO (demonref1_Sum.f k a0) (demonref1_Sum.f (k + 1) a0) := by
  intro a0 k
  have ih0 := demonref1_Sum.mono_l k
  unfold demonref1_Sum.f
  repeat' first
      | (with_reducible exact ih0 _ _ _)
      | (with_reducible exact LeO.refl _)
      | (with_reducible exact LeO.none _)
      | (with_reducible refine LeO.ite ?_ ?_)
      | (with_reducible refine LeO.bind ?_ (fun _ => ?_))
      | exact ih0 _ _ _
      | exact LeO.none _
      | refine LeO.ite ?_ ?_
      | refine LeO.bind ?_ (fun _ => ?_)
set_option maxHeartbeats 8000000 in
set_option maxRecDepth 100000 in
theorem demonref1_Sum.calls (k : Nat) (A0 : Option Addr) (c0 : Nat) (l0 : List Int) (r : Int) (w : World) (hr0 : Kd.C (Kd.int .i64) w A0 l0.length l0) (hc0 : l0.length ≤ c0) (h : demonref1_Sum.f k l0 = some r) :
    Calls Tryd.prog 30 #[.slice A0 l0.length c0] w fun e w' => e = .returned (.int .i64 r) ∧ Drawn0 w w' := by
  have HR0 := Aside0.mk hr0
  have HC0 := Aside0.mk hc0
  clear hr0 hc0
  have H : (demonref1_Sum.l0 k l0 0 0) = some r := h
  clear h
  have H' := Aside0.mk H
  clear H
  go_enter Tryd.func30, Tryd.ntmps30
  go_wp2
  go_loopg [3, 4] k (fun kq v3 v4 w' => ∃ (x3_1 : Int) (x4_1 : Int), v3 = .int .i64 x3_1 ∧ v4 = .int .i64 x4_1 ∧ Aside0 (demonref1_Sum.l0 kq l0 x3_1 x4_1 = some r) ∧ Aside0 (kq ≤ k) ∧ Drawn0 w w')
  case atStart => exact ⟨(0), (0), (by first | rfl | (simp; done) | (simp [*]; done)), (by first | rfl | (simp; done) | (simp [*]; done)), H', ⟨Nat.le_refl _⟩, by repeat (first | exact Drawn0.refl _ | apply Drawn0.step)⟩
  case round =>
    clear H'
    obtain ⟨x3_1, x4_1, rfl, rfl, HA, HK1, ⟨m1, rfl⟩⟩ := hrel
    cases gk with
    | zero => exact absurd HA.out (by simp [demonref1_Sum.l0])
    | succ k1 =>
      have H := HA.out
      clear HA
      simp only [demonref1_Sum.l0] at H
      by_cases c2 : x4_1 < (l0.length : Int)
      · rw [if_pos c2] at H
        have c2b0 : decide (x4_1 < (l0.length : Int)) = true := decide_eq_true c2
        clear c2
        by_cases c3 : 0 ≤ x4_1
        · rw [if_pos c3] at H
          have c3b0 : decide (0 ≤ x4_1) = true := decide_eq_true c3
          clear c3
          have H' := Aside0.mk H
          clear H
          have p256 : 0 ≤ (x4_1 : Int) := of_decide_eq_true (by first | (with_reducible assumption) | assumption)
          have q256 : x4_1 < (l0.length : Int) := of_decide_eq_true (by first | (with_reducible assumption) | assumption)
          obtain ⟨ad256, e256, hx256_0⟩ := Kd.at_int HR0.out x4_1 p256 q256
          cases e256
          replace p256 := eq_true p256
          replace q256 := eq_true q256
          go_wp2
          go_roundg k1
          case measure => have := HK1.out; omega
          case rel => exact ⟨(wrap64 (x3_1 + (rd l0 x4_1))), (wrap64 (x4_1 + 1)), (by first | rfl | (simp; done) | (simp [*]; done)), (by first | rfl | (simp; done) | (simp [*]; done)), H', ⟨by have := HK1.out; omega⟩, by repeat (first | exact Drawn0.refl _ | apply Drawn0.step)⟩
        · rw [if_neg c3] at H
          exact absurd H (by simp)
      · rw [if_neg c2] at H
        have c2b0 : decide (x4_1 < (l0.length : Int)) = false := decide_eq_false c2
        clear c2
        obtain rfl := Option.some.inj H
        go_wp2
        go_ret
        exact ⟨by first | rfl | (simp; done) | (simp [*]; done), by repeat (first | exact Drawn0.refl _ | apply Drawn0.step)⟩

/-! ### demonref4_SquareError: function 26 -/
mutual
def demonref4_SquareError.l0 : Nat → List (List Int) → Int → Option (Int)
  | 0, _, _ => none
  | k + 1, x0, x3 => if x3 < (x0.length : Int) then (if 0 ≤ x3 then ((demonref4_Numbers.f k (rd_L1 x0 x3)).bind fun t258 => (if t258 = true then (if ((rd_L1 x0 x3).length : Int) = (x0.length : Int) then (demonref4_SquareError.l0 k x0 (wrap64 (x3 + 1))) else (some 3)) else (some 3))) else (none)) else (demonref4_SquareError.l1 k x0 0)
def demonref4_SquareError.l1 : Nat → List (List Int) → Int → Option (Int)
  | 0, _, _ => none
  | k + 1, x0, x5 => if x5 < (x0.length : Int) then (demonref4_SquareError.l2 k x0 x5 0 0) else (some 0)
def demonref4_SquareError.l2 : Nat → List (List Int) → Int → Int → Int → Option (Int)
  | 0, _, _, _, _ => none
  | k + 1, x0, x5, x6, x7 => if x7 < (x0.length : Int) then (if 0 ≤ x7 then (if 0 ≤ x5 then (if x5 < ((rd_L1 x0 x7).length : Int) then (demonref4_SquareError.l2 k x0 x5 (wrap64 (x6 + (rd (rd_L1 x0 x7) x5))) (wrap64 (x7 + 1))) else (none)) else (none)) else (none)) else (if 0 ≤ x5 then (if x5 < (x0.length : Int) then ((demonref1_Sum.f k (rd_L1 x0 x5)).bind fun t263 => (if 0 < (x0.length : Int) then ((demonref1_Sum.f k (rd_L1 x0 0)).bind fun t265 => (if t263 = t265 then ((demonref1_Sum.f k (rd_L1 x0 0)).bind fun t267 => (if x6 = t267 then (demonref4_SquareError.l1 k x0 (wrap64 (x5 + 1))) else (some 3))) else (some 3))) else (none))) else (none)) else (none))
end
def demonref4_SquareError.f (k : Nat) (l0 : List (List Int)) : Option (Int) := if (l0.length : Int) > 8 then (some 2) else (if (l0.length : Int) = 0 then (some 3) else (demonref4_SquareError.l0 k l0 0))
theorem demonref4_SquareError.mono_l : ∀ k, (∀ y0 y1, LeO (demonref4_SquareError.l0 k y0 y1) (demonref4_SquareError.l0 (k + 1) y0 y1)) ∧ (∀ y0 y1, LeO (demonref4_SquareError.l1 k y0 y1) (demonref4_SquareError.l1 (k + 1) y0 y1)) ∧ (∀ y0 y1 y2 y3, LeO (demonref4_SquareError.l2 k y0 y1 y2 y3) (demonref4_SquareError.l2 (k + 1) y0 y1 y2 y3))
  | 0 => ⟨fun _ _ r h => by simp [demonref4_SquareError.l0] at h, fun _ _ r h => by simp [demonref4_SquareError.l1] at h, fun _ _ _ _ r h => by simp [demonref4_SquareError.l2] at h⟩
  | k + 1 => by
    obtain ⟨ih0, ih1, ih2⟩ := demonref4_SquareError.mono_l k
    refine ⟨?_, ?_, ?_⟩
    · intro y0 y1
      unfold demonref4_SquareError.l0
      repeat' first
      | (with_reducible exact ih0 _ _)
      | (with_reducible exact ih1 _ _)
      | (with_reducible exact ih2 _ _ _ _)
      | (with_reducible exact demonref1_Sum.mono _ _)
      | (with_reducible exact demonref4_Numbers.mono _ _)
      | (with_reducible exact LeO.refl _)
      | (with_reducible exact LeO.none _)
      | (with_reducible refine LeO.ite ?_ ?_)
      | (with_reducible refine LeO.bind ?_ (fun _ => ?_))
      | exact ih0 _ _
      | exact ih1 _ _
      | exact ih2 _ _ _ _
      | exact demonref1_Sum.mono _ _
      | exact demonref4_Numbers.mono _ _
      | exact LeO.none _
      | refine LeO.ite ?_ ?_
      | refine LeO.bind ?_ (fun _ => ?_)
    · intro y0 y1
      unfold demonref4_SquareError.l1
      repeat' first
      | (with_reducible exact ih0 _ _)
      | (with_reducible exact ih1 _ _)
      | (with_reducible exact ih2 _ _ _ _)
      | (with_reducible exact demonref1_Sum.mono _ _)
      | (with_reducible exact demonref4_Numbers.mono _ _)
      | (with_reducible exact LeO.refl _)
      | (with_reducible exact LeO.none _)
      | (with_reducible refine LeO.ite ?_ ?_)
      | (with_reducible refine LeO.bind ?_ (fun _ => ?_))
      | exact ih0 _ _
      | exact ih1 _ _
      | exact ih2 _ _ _ _
      | exact demonref1_Sum.mono _ _
      | exact demonref4_Numbers.mono _ _
      | exact LeO.none _
      | refine LeO.ite ?_ ?_
      | refine LeO.bind ?_ (fun _ => ?_)
    · intro y0 y1 y2 y3
      unfold demonref4_SquareError.l2
      repeat' first
      | (with_reducible exact ih0 _ _)
      | (with_reducible exact ih1 _ _)
      | (with_reducible exact ih2 _ _ _ _)
      | (with_reducible exact demonref1_Sum.mono _ _)
      | (with_reducible exact demonref4_Numbers.mono _ _)
      | (with_reducible exact LeO.refl _)
      | (with_reducible exact LeO.none _)
      | (with_reducible refine LeO.ite ?_ ?_)
      | (with_reducible refine LeO.bind ?_ (fun _ => ?_))
      | exact ih0 _ _
      | exact ih1 _ _
      | exact ih2 _ _ _ _
      | exact demonref1_Sum.mono _ _
      | exact demonref4_Numbers.mono _ _
      | exact LeO.none _
      | refine LeO.ite ?_ ?_
      | refine LeO.bind ?_ (fun _ => ?_)
theorem demonref4_SquareError.mono : ∀ a0 k, LeO (demonref4_SquareError.f k a0) (demonref4_SquareError.f (k + 1) a0) := by
  intro a0 k
  obtain ⟨ih0, ih1, ih2⟩ := demonref4_SquareError.mono_l k
  unfold demonref4_SquareError.f
  repeat' first
      | (with_reducible exact ih0 _ _)
      | (with_reducible exact ih1 _ _)
      | (with_reducible exact ih2 _ _ _ _)
      | (with_reducible exact demonref1_Sum.mono _ _)
      | (with_reducible exact demonref4_Numbers.mono _ _)
      | (with_reducible exact LeO.refl _)
      | (with_reducible exact LeO.none _)
      | (with_reducible refine LeO.ite ?_ ?_)
      | (with_reducible refine LeO.bind ?_ (fun _ => ?_))
      | exact ih0 _ _
      | exact ih1 _ _
      | exact ih2 _ _ _ _
      | exact demonref1_Sum.mono _ _
      | exact demonref4_Numbers.mono _ _
      | exact LeO.none _
      | refine LeO.ite ?_ ?_
      | refine LeO.bind ?_ (fun _ => ?_)
/-! ### demonref4_SpreadOf: function 28 -/
mutual
def demonref4_SpreadOf.l0 : Nat → List (List Int) → List Int → List Int → Int → Option (List Int)
  | 0, _, _, _, _ => none
  | k + 1, x0, x1, x5, x6 => if x6 < (x0.length : Int) then (demonref4_SpreadOf.l1 k x0 x1 x5 x6 0 0) else (some x5)
def demonref4_SpreadOf.l1 : Nat → List (List Int) → List Int → List Int → Int → Int → Int → Option (List Int)
  | 0, _, _, _, _, _, _ => none
  | k + 1, x0, x1, x5, x6, x7, x8 => if x8 < (x1.length : Int) then (if 0 ≤ x6 then (if x6 < (x0.length : Int) then (if 0 ≤ x8 then (if x8 < ((rd_L1 x0 x6).length : Int) then (demonref4_SpreadOf.l1 k x0 x1 x5 x6 (wrap64 (x7 + (wrap64 ((rd (rd_L1 x0 x6) x8) * (rd x1 x8))))) (wrap64 (x8 + 1))) else (none)) else (none)) else (none)) else (none)) else (if x5.length < 17592186044416 then (demonref4_SpreadOf.l0 k x0 x1 (x5 ++ [x7]) (wrap64 (x6 + 1))) else (none))
end
def demonref4_SpreadOf.f (k : Nat) (l0 : List (List Int)) (l1 : List Int) : Option (List Int) := demonref4_SpreadOf.l0 k l0 l1 ([] : List Int) 0
theorem demonref4_SpreadOf.mono_l : ∀ k, (∀ y0 y1 y2 y3, LeO (demonref4_SpreadOf.l0 k y0 y1 y2 y3) (demonref4_SpreadOf.l0 (k + 1) y0 y1 y2 y3)) ∧ (∀ y0 y1 y2 y3 y4 y5, LeO (demonref4_SpreadOf.l1 k y0 y1 y2 y3 y4 y5) (demonref4_SpreadOf.l1 (k + 1) y0 y1 y2 y3 y4 y5))
  | 0 => ⟨fun _ _ _ _ r h => by simp [demonref4_SpreadOf.l0] at h, fun _ _ _ _ _ _ r h => by simp [demonref4_SpreadOf.l1] at h⟩
  | k + 1 => by
    obtain ⟨ih0, ih1⟩ := demonref4_SpreadOf.mono_l k
    refine ⟨?_, ?_⟩
    · intro y0 y1 y2 y3
      unfold demonref4_SpreadOf.l0
      repeat' first
      | (with_reducible exact ih0 _ _ _ _)
      | (with_reducible exact ih1 _ _ _ _ _ _)
      | (with_reducible exact LeO.refl _)
      | (with_reducible exact LeO.none _)
      | (with_reducible refine LeO.ite ?_ ?_)
      | (with_reducible refine LeO.bind ?_ (fun _ => ?_))
      | exact ih0 _ _ _ _
      | exact ih1 _ _ _ _ _ _
      | exact LeO.none _
      | refine LeO.ite ?_ ?_
      | refine LeO.bind ?_ (fun _ => ?_)
    · intro y0 y1 y2 y3 y4 y5
      unfold demonref4_SpreadOf.l1
      repeat' first
      | (with_reducible exact ih0 _ _ _ _)
      | (with_reducible exact ih1 _ _ _ _ _ _)
      | (with_reducible exact LeO.refl _)
      | (with_reducible exact LeO.none _)
      | (with_reducible refine LeO.ite ?_ ?_)
      | (with_reducible refine LeO.bind ?_ (fun _ => ?_))
      | exact ih0 _ _ _ _
      | exact ih1 _ _ _ _ _ _
      | exact LeO.none _
      | refine LeO.ite ?_ ?_
      | refine LeO.bind ?_ (fun _ => ?_)
theorem demonref4_SpreadOf.mono : ∀ a0 a1 k, LeO (demonref4_SpreadOf.f k a0 a1) (demonref4_SpreadOf.f (k + 1) a0 a1) := by
  intro a0 a1 k
  obtain ⟨ih0, ih1⟩ := demonref4_SpreadOf.mono_l k
  unfold demonref4_SpreadOf.f
  repeat' first
      | (with_reducible exact ih0 _ _ _ _)
      | (with_reducible exact ih1 _ _ _ _ _ _)
      | (with_reducible exact LeO.refl _)
      | (with_reducible exact LeO.none _)
      | (with_reducible refine LeO.ite ?_ ?_)
      | (with_reducible refine LeO.bind ?_ (fun _ => ?_))
      | exact ih0 _ _ _ _
      | exact ih1 _ _ _ _ _ _
      | exact LeO.none _
      | refine LeO.ite ?_ ?_
      | refine LeO.bind ?_ (fun _ => ?_)
set_option maxHeartbeats 8000000 in
set_option maxRecDepth 100000 in
theorem demonref4_SpreadOf.calls (k : Nat) (A0 : Option Addr) (c0 : Nat) (l0 : List (List Int)) (A1 : Option Addr) (c1 : Nat) (l1 : List Int) (r : List Int) (w : World) (hr0 : Kd.C (Kd.slice 3 (Kd.int .i64)) w A0 l0.length l0) (hc0 : l0.length ≤ c0) (hr1 : Kd.C (Kd.int .i64) w A1 l1.length l1) (hc1 : l1.length ≤ c1) (h : demonref4_SpreadOf.f k l0 l1 = some r) :
    Calls Tryd.prog 28 #[.slice A0 l0.length c0, .slice A1 l1.length c1] w fun e w' => ∃ v0_ : Value, e = .returned (v0_) ∧ Kd.R (Kd.int .i64) 3 w' w.heap.size (fun _ => True) v0_ r ∧ Below w.heap.size w w' := by
  have HR0 := Aside0.mk hr0
  have HC0 := Aside0.mk hc0
  clear hr0 hc0
  have HR1 := Aside0.mk hr1
  have HC1 := Aside0.mk hc1
  clear hr1 hc1
  have HB := Aside0.mk (Below.refl w.heap.size w)
  have H : (demonref4_SpreadOf.l0 k l0 l1 ([] : List Int) 0) = some r := h
  clear h
  have H' := Aside0.mk H
  clear H
  go_enter Tryd.func28, Tryd.ntmps28
  go_wp2
  repeat (go_quiet (fail); try go_wp2)
  go_loopg [5, 6] k (fun kq v5 v6 w' => ∃ (x5_1 : List Int) (x6_1 : Int), v6 = .int .i64 x6_1 ∧ Aside0 (demonref4_SpreadOf.l0 kq l0 l1 x5_1 x6_1 = some r) ∧ Aside0 (kq ≤ k) ∧ Aside0 (Kd.R (Kd.int .i64) 3 w' w.heap.size (fun _ => True) v5 x5_1) ∧ Aside0 (Below w.heap.size w w'))
  case atStart => exact ⟨(([] : List Int)), (0), (by first | rfl | (simp; done) | (simp [*]; done)), H', ⟨Nat.le_refl _⟩, ⟨by first | exact Kd.R_nil _ _ _ _ _ | exact Kd.N_nil _ _ _ _ _ | exact Kd.V_nil _ _ _ _ _ | exact Kd.Q_nil _ _ _ _ _ | exact Kd.S_nil _ _ _ _ _⟩, ⟨by repeat (first | (with_reducible first | exact HB.out | apply below_alloc | apply pw_below_drewN | apply below_drew1) | exact HB.out)⟩⟩
  case round =>
    clear H'
    try clear c1
    try clear c2
    try clear p2
    obtain ⟨x5_1, x6_1, rfl, HA, HK1, HO_5, HB⟩ := hrel
    cases gk with
    | zero => exact absurd HA.out (by simp [demonref4_SpreadOf.l0])
    | succ k1 =>
      have H := HA.out
      clear HA
      simp only [demonref4_SpreadOf.l0] at H
      by_cases c3 : x6_1 < (l0.length : Int)
      · rw [if_pos c3] at H
        have c3b0 : decide (x6_1 < (l0.length : Int)) = true := decide_eq_true c3
        clear c3
        have H' := Aside0.mk H
        clear H
        go_wp2
        repeat (go_quiet (fail); try go_wp2)
        go_loopg [7, 8] k1 (fun kq v7 v8 w' => ∃ (x7_2 : Int) (x8_2 : Int), v7 = .int .i64 x7_2 ∧ v8 = .int .i64 x8_2 ∧ Aside0 (demonref4_SpreadOf.l1 kq l0 l1 x5_1 x6_1 x7_2 x8_2 = some r) ∧ Aside0 (kq ≤ k1) ∧ Aside0 (Kd.R (Kd.int .i64) 3 w' w.heap.size (fun _ => True) u5 x5_1) ∧ Aside0 (Below w.heap.size w w'))
        case atStart => exact ⟨(0), (0), (by first | rfl | (simp; done) | (simp [*]; done)), (by first | rfl | (simp; done) | (simp [*]; done)), H', ⟨Nat.le_refl _⟩, ⟨by (with_reducible repeat (first | apply Kd.R_alloc | apply Kd.R_drewN | apply Kd.R_drew)); exact HO_5.out⟩, ⟨by repeat (first | (with_reducible first | exact HB.out | apply below_alloc | apply pw_below_drewN | apply below_drew1) | exact HB.out)⟩⟩
        case round =>
          clear H'
          try clear c1
          try clear c2
          try clear p2
          try clear c3
          try clear c3b0
          try clear p2
          obtain ⟨x7_2, x8_2, rfl, rfl, HA, HK2, HO_5, HB⟩ := hrel
          cases gk with
          | zero => exact absurd HA.out (by simp [demonref4_SpreadOf.l1])
          | succ k2 =>
            have H := HA.out
            clear HA
            simp only [demonref4_SpreadOf.l1] at H
            by_cases c4 : x8_2 < (l1.length : Int)
            · rw [if_pos c4] at H
              have c4b0 : decide (x8_2 < (l1.length : Int)) = true := decide_eq_true c4
              clear c4
              by_cases c5 : 0 ≤ x6_1
              · rw [if_pos c5] at H
                have c5b0 : decide (0 ≤ x6_1) = true := decide_eq_true c5
                clear c5
                by_cases c6 : x6_1 < (l0.length : Int)
                · rw [if_pos c6] at H
                  have c6b0 : decide (x6_1 < (l0.length : Int)) = true := decide_eq_true c6
                  clear c6
                  by_cases c7 : 0 ≤ x8_2
                  · rw [if_pos c7] at H
                    have c7b0 : decide (0 ≤ x8_2) = true := decide_eq_true c7
                    clear c7
                    by_cases c8 : x8_2 < ((rd_L1 l0 x6_1).length : Int)
                    · rw [if_pos c8] at H
                      have c8b0 : decide (x8_2 < ((rd_L1 l0 x6_1).length : Int)) = true := decide_eq_true c8
                      clear c8
                      have H' := Aside0.mk H
                      clear H
                      have p268 : 0 ≤ (x6_1 : Int) := of_decide_eq_true (by first | (with_reducible assumption) | assumption)
                      have q268 : x6_1 < (l0.length : Int) := of_decide_eq_true (by first | (with_reducible assumption) | assumption)
                      obtain ⟨ad268, A268_0, c268_0, e268, hx268_0, hl268_0, hi268_0⟩ := at_L1 HR0.out x6_1 p268 q268
                      cases e268
                      replace hx268_0 := (HB.out.cell (World.block_lt_of_cell? w _ hx268_0)).trans hx268_0
                      have HR268_0 := Aside0.mk hi268_0
                      have HC268_0 := Aside0.mk hl268_0
                      clear hi268_0 hl268_0
                      replace p268 := eq_true p268
                      replace q268 := eq_true q268
                      have p269 : 0 ≤ (x8_2 : Int) := of_decide_eq_true (by first | (with_reducible assumption) | assumption)
                      have q269 : x8_2 < ((rd_L1 l0 x6_1).length : Int) := of_decide_eq_true (by first | (with_reducible assumption) | assumption)
                      obtain ⟨ad269, e269, hx269_0⟩ := Kd.at_int HR268_0.out x8_2 p269 q269
                      cases e269
                      replace hx269_0 := (HB.out.cell (World.block_lt_of_cell? w _ hx269_0)).trans hx269_0
                      replace p269 := eq_true p269
                      replace q269 := eq_true q269
                      have p270 : 0 ≤ (x8_2 : Int) := of_decide_eq_true (by first | (with_reducible assumption) | assumption)
                      have q270 : x8_2 < (l1.length : Int) := of_decide_eq_true (by first | (with_reducible assumption) | assumption)
                      obtain ⟨ad270, e270, hx270_0⟩ := Kd.at_int HR1.out x8_2 p270 q270
                      cases e270
                      replace hx270_0 := (HB.out.cell (World.block_lt_of_cell? w _ hx270_0)).trans hx270_0
                      replace p270 := eq_true p270
                      replace q270 := eq_true q270
                      go_wp2
                      repeat (go_quiet (fail); try go_wp2)
                      go_roundg k2
                      case measure => have := HK1.out; have := HK2.out; omega
                      case rel => exact ⟨(wrap64 (x7_2 + (wrap64 ((rd (rd_L1 l0 x6_1) x8_2) * (rd l1 x8_2))))), (wrap64 (x8_2 + 1)), (by first | rfl | (simp; done) | (simp [*]; done)), (by first | rfl | (simp; done) | (simp [*]; done)), H', ⟨by have := HK1.out; have := HK2.out; omega⟩, ⟨by (with_reducible repeat (first | apply Kd.R_alloc | apply Kd.R_drewN | apply Kd.R_drew)); exact HO_5.out⟩, ⟨by repeat (first | (with_reducible first | exact HB.out | apply below_alloc | apply pw_below_drewN | apply below_drew1) | exact HB.out)⟩⟩
                    · rw [if_neg c8] at H
                      exact absurd H (by simp)
                  · rw [if_neg c7] at H
                    exact absurd H (by simp)
                · rw [if_neg c6] at H
                  exact absurd H (by simp)
              · rw [if_neg c5] at H
                exact absurd H (by simp)
            · rw [if_neg c4] at H
              have c4b0 : decide (x8_2 < (l1.length : Int)) = false := decide_eq_false c4
              clear c4
              by_cases c9 : x5_1.length < 17592186044416
              · rw [if_pos c9] at H
                have LMc9 := Aside0.mk c9
                clear c9
                obtain ⟨y271, hy271⟩ : ∃ y_ : List Int, y_ = (x5_1 ++ [x7_2]) := ⟨_, rfl⟩
                replace H : (demonref4_SpreadOf.l0 k2 l0 l1 y271 (wrap64 (x6_1 + 1))) = some r := by first | (rw [hy271]; with_reducible exact H) | (have H2_ := (Option.bind_some _ _).symm.trans H; rw [hy271]; with_reducible exact H2_) | (have H2_ := (Option.bind_some _ _).symm.trans H; with_reducible exact H2_) | with_reducible exact H | (rw [hy271]; exact H) | exact H
                have Ny271 := Aside0.mk hy271
                clear hy271
                have H' := Aside0.mk H
                clear H
                go_wp2_with (first | ((with_reducible refine gate_builtin (b := .append) (xs := #[.tmp 35, .tmp 37]) rfl ?_); at_builtin; refine Kd.R_append (Kd.int .i64) (w0 := w) w.heap.size rfl (.tmp 35) (.tmp 37) 25 3 (.int .i64 0) 8 rfl Tryd.underlying25 info3 rfl (by decide) (by omega) u5 x5_1 x7_2 [.int .i64 x7_2] (fun _ => True) (fun _ => False) rfl rfl ?aP (fun _ hk => hk.elim) ?aF ?aO ?aB ?aS ?aL ?_; (case aP => exact rfl); (case aB => exact (by repeat (first | (with_reducible first | exact HB.out | apply below_alloc | apply pw_below_drewN | apply below_drew1) | exact HB.out))); (case aF => exact (fun _ _ => trivial)); (case aO => exact (by (with_reducible repeat (first | apply Kd.R_alloc | apply Kd.R_drewN | apply Kd.R_drew)); exact HO_5.out)); (case aS => exact (below_size (by repeat (first | (with_reducible first | exact HB.out | apply below_alloc | apply pw_below_drewN | apply below_drew1) | exact HB.out)))); (case aL => have := LMc9.out; omega); intro v272 w10 ho hb hg hat; rw [← Ny271.out] at ho; have n0_ := Aside0.mk (hb); have n1_ := Aside0.mk (ho); clear HB; clear HO_5; have HB := n0_; have HO273 := n1_; clear n0_ n1_; clear ho hb hg hat))
                repeat (go_quiet (first | ((with_reducible refine gate_builtin (b := .append) (xs := #[.tmp 35, .tmp 37]) rfl ?_); at_builtin; refine Kd.R_append (Kd.int .i64) (w0 := w) w.heap.size rfl (.tmp 35) (.tmp 37) 25 3 (.int .i64 0) 8 rfl Tryd.underlying25 info3 rfl (by decide) (by omega) u5 x5_1 x7_2 [.int .i64 x7_2] (fun _ => True) (fun _ => False) rfl rfl ?aP (fun _ hk => hk.elim) ?aF ?aO ?aB ?aS ?aL ?_; (case aP => exact rfl); (case aB => exact (by repeat (first | (with_reducible first | exact HB.out | apply below_alloc | apply pw_below_drewN | apply below_drew1) | exact HB.out))); (case aF => exact (fun _ _ => trivial)); (case aO => exact (by (with_reducible repeat (first | apply Kd.R_alloc | apply Kd.R_drewN | apply Kd.R_drew)); exact HO_5.out)); (case aS => exact (below_size (by repeat (first | (with_reducible first | exact HB.out | apply below_alloc | apply pw_below_drewN | apply below_drew1) | exact HB.out)))); (case aL => have := LMc9.out; omega); intro v272 w10 ho hb hg hat; rw [← Ny271.out] at ho; have n0_ := Aside0.mk (hb); have n1_ := Aside0.mk (ho); clear HB; clear HO_5; have HB := n0_; have HO273 := n1_; clear n0_ n1_; clear ho hb hg hat)); try go_wp2_with (first | ((with_reducible refine gate_builtin (b := .append) (xs := #[.tmp 35, .tmp 37]) rfl ?_); at_builtin; refine Kd.R_append (Kd.int .i64) (w0 := w) w.heap.size rfl (.tmp 35) (.tmp 37) 25 3 (.int .i64 0) 8 rfl Tryd.underlying25 info3 rfl (by decide) (by omega) u5 x5_1 x7_2 [.int .i64 x7_2] (fun _ => True) (fun _ => False) rfl rfl ?aP (fun _ hk => hk.elim) ?aF ?aO ?aB ?aS ?aL ?_; (case aP => exact rfl); (case aB => exact (by repeat (first | (with_reducible first | exact HB.out | apply below_alloc | apply pw_below_drewN | apply below_drew1) | exact HB.out))); (case aF => exact (fun _ _ => trivial)); (case aO => exact (by (with_reducible repeat (first | apply Kd.R_alloc | apply Kd.R_drewN | apply Kd.R_drew)); exact HO_5.out)); (case aS => exact (below_size (by repeat (first | (with_reducible first | exact HB.out | apply below_alloc | apply pw_below_drewN | apply below_drew1) | exact HB.out)))); (case aL => have := LMc9.out; omega); intro v272 w10 ho hb hg hat; rw [← Ny271.out] at ho; have n0_ := Aside0.mk (hb); have n1_ := Aside0.mk (ho); clear HB; clear HO_5; have HB := n0_; have HO273 := n1_; clear n0_ n1_; clear ho hb hg hat)))
                go_roundg k2
                case measure => have := HK1.out; have := HK2.out; omega
                case rel => exact ⟨(y271), (wrap64 (x6_1 + 1)), (by first | rfl | (simp; done) | (simp [*]; done)), H', ⟨by have := HK1.out; have := HK2.out; omega⟩, ⟨by (with_reducible repeat (first | apply Kd.R_alloc | apply Kd.R_drewN | apply Kd.R_drew)); exact HO273.out⟩, ⟨by repeat (first | (with_reducible first | exact HB.out | apply below_alloc | apply pw_below_drewN | apply below_drew1) | exact HB.out)⟩⟩
              · rw [if_neg c9] at H
                exact absurd H (by simp)
      · rw [if_neg c3] at H
        have c3b0 : decide (x6_1 < (l0.length : Int)) = false := decide_eq_false c3
        clear c3
        obtain rfl := Option.some.inj H
        go_wp2
        repeat (go_quiet (fail); try go_wp2)
        go_ret
        exact ⟨_, by first | rfl | (simp [errW_none, errW_some] <;> rfl) | (simp [*, errW_none, errW_some] <;> rfl), by (with_reducible repeat (first | apply Kd.R_alloc | apply Kd.R_drewN | apply Kd.R_drew)); exact HO_5.out, by repeat (first | (with_reducible first | exact HB.out | apply below_alloc | apply pw_below_drewN | apply below_drew1) | exact HB.out)⟩

-- NOT PRINTED: function 39 (order_square)

-- NOT PRINTED: function 29 (order_Spread)

-- NOT PRINTED: function 6 (demonlaw4_OrderSpread)

end Go.Proofs.YtcnecmcbjpehcaaDoor.POrderSpread

/- Plain words for tables whose rows and columns have one sum, and for what they make of weights; what the printed functions on them answer. No condition. -/
namespace Go.Proofs.YtcnecmcbjpehcaaDoor
open Go Go.RowKit Go.Proofs.YtcnecmcbjpehcaaDoorW.PrintWords Go.Proofs.YtcnecmcbjpehcaaDoor.POrderSpread

theorem rdL_nat (m : List (List Int)) (i : Nat) : rd_L1 m (i : Int) = m.getD i [] := rfl
theorem sumS_l0 (l : List Int) : ∀ (k : Nat) (s i : Int), POrderSpread.demonref1_Sum.l0 k l s i = POrderAbove.demonref1_Sum.l0 k l s i
  | 0, _, _ => rfl
  | k + 1, s, i => by simp only [POrderSpread.demonref1_Sum.l0, POrderAbove.demonref1_Sum.l0, sumS_l0 l k]
theorem sumS_f {l : List Int} (h : Small l) : Ev (fun k => POrderSpread.demonref1_Sum.f k l) l.sum := Ev.congr (fun k => sumS_l0 l k 0 0) (sum_f h)
theorem numbersS_l0 (l : List Int) : ∀ (k : Nat) (i : Int), POrderSpread.demonref4_Numbers.l0 k l i = POrderAbove.demonref4_Numbers.l0 k l i
  | 0, _ => rfl
  | k + 1, i => by simp only [POrderSpread.demonref4_Numbers.l0, POrderAbove.demonref4_Numbers.l0, numbersS_l0 l k]
theorem numbersS_f (l : List Int) (hl : l.length ≤ 2000000) : Ev (fun k => POrderSpread.demonref4_Numbers.f k l) (numb l) := Ev.congr (fun k => numbersS_l0 l k 0) (numbers_f l hl)
theorem getDL_eq (l : List (List Int)) (i : Nat) (h : i < l.length) : l.getD i [] = l[i] := by simp [List.getD_eq_getElem?_getD, h]
theorem takeL_at (l : List (List Int)) (i : Nat) (h : i < l.length) : l.take (i + 1) = l.take i ++ [l.getD i []] := by
  rw [List.take_succ_eq_append_getElem h, getDL_eq l i h]

/-- a row that may stand in a table of n rows -/
def goodRow (n : Nat) (r : List Int) : Bool := numb r && decide (r.length = n)
/-- a column's sum, of the first k rows -/
def colTo (m : List (List Int)) (i k : Nat) : Int := ((m.take k).map fun r => r.getD i 0).sum
def colSum (m : List (List Int)) (i : Nat) : Int := colTo m i m.length
theorem colTo_succ (m : List (List Int)) (i k : Nat) (h : k < m.length) : colTo m i (k + 1) = colTo m i k + (m.getD k []).getD i 0 := by
  unfold colTo
  rw [takeL_at m k h, List.map_append, List.sum_append]
  simp
/-- the sums at place i are right -/
def goodAt (m : List (List Int)) (i : Nat) : Bool := decide ((m.getD i []).sum = (m.getD 0 []).sum) && decide (colSum m i = (m.getD 0 []).sum)
/-- the code of a table's error -/
def sqErr (m : List (List Int)) : Int := if 8 < m.length then 2 else if m.length = 0 then 3 else if (m.all (goodRow m.length) && (List.range m.length).all (goodAt m)) = true then 0 else 3
theorem goodRow_get {m : List (List Int)} (h : m.all (goodRow m.length) = true) (i : Nat) (hi : i < m.length) : numb (m.getD i []) = true ∧ (m.getD i []).length = m.length := by
  rw [List.all_eq_true] at h
  have := h (m.getD i []) (by rw [getDL_eq m i hi]; exact List.getElem_mem hi)
  simpa [goodRow] using this
theorem colTo_bound {m : List (List Int)} (h : m.all (goodRow m.length) = true) (i : Nat) (hi : i < m.length) : ∀ k, k ≤ m.length → 0 ≤ colTo m i k ∧ colTo m i k ≤ 4096 * (k : Int) := by
  intro k
  induction k with
  | zero => intro _; simp [colTo]
  | succ k ih =>
    intro hk
    have h1 := ih (by omega)
    obtain ⟨g1, g2⟩ := goodRow_get h k (by omega)
    have h2 := numb_get g1 i (by omega)
    rw [colTo_succ m i k (by omega)]
    omega
theorem squareError_l2 {m : List (List Int)} (h : m.all (goodRow m.length) = true) (h8 : m.length ≤ 8) (i : Nat) (hi : i < m.length) (r : Int)
    (yes : goodAt m i = true → Ev (fun k => POrderSpread.demonref4_SquareError.l1 k m ((i + 1 : Nat) : Int)) r) (no : goodAt m i = false → r = 3) :
    ∀ (d j : Nat), j + d = m.length → Ev (fun k => POrderSpread.demonref4_SquareError.l2 k m (i : Int) (colTo m i j) (j : Int)) r := by
  intro d
  induction d with
  | zero =>
    intro j hj
    obtain rfl : j = m.length := by omega
    have s1 := sumS_f (numb_small (goodRow_get h i hi).1 (by have := (goodRow_get h i hi).2; omega))
    have s0 := sumS_f (numb_small (goodRow_get h 0 (by omega)).1 (by have := (goodRow_get h 0 (by omega)).2; omega))
    have body : Ev (fun k => (POrderSpread.demonref1_Sum.f k (m.getD i [])).bind fun t => if 0 < (m.length : Int) then (POrderSpread.demonref1_Sum.f k (m.getD 0 [])).bind fun s => if t = s then (POrderSpread.demonref1_Sum.f k (m.getD 0 [])).bind fun u => if colTo m i m.length = u then POrderSpread.demonref4_SquareError.l1 k m (wrap64 ((i : Int) + 1)) else some 3 else some 3 else none) r := by
      refine Ev.bind s1 (Ev.congr (fun k => by rw [if_pos (by omega)]) (Ev.bind s0 ?_))
      by_cases c1 : (m.getD i []).sum = (m.getD 0 []).sum
      · refine Ev.congr (fun k => by rw [if_pos c1]) (Ev.bind s0 ?_)
        by_cases c2 : colTo m i m.length = (m.getD 0 []).sum
        · refine Ev.congr (fun k => by rw [if_pos c2, wrap_up i (by omega)]) (yes ?_)
          unfold goodAt colSum
          rw [decide_eq_true c1, decide_eq_true c2]
          rfl
        · rw [no (by unfold goodAt colSum; rw [decide_eq_false c2, Bool.and_false])]
          exact Ev.congr (fun k => by rw [if_neg c2]) (Ev.now _)
      · rw [no (by unfold goodAt; rw [decide_eq_false c1, Bool.false_and])]
        exact Ev.congr (fun k => by rw [if_neg c1]) (Ev.now _)
    refine Ev.step (fun k => ?_) body
    simp only [POrderSpread.demonref4_SquareError.l2]
    rw [if_neg (by omega), if_pos (by omega), if_pos (by omega)]
    rfl
  | succ d ih =>
    intro j hj
    have hb := colTo_bound h i hi j (by omega)
    have hg := goodRow_get h j (by omega)
    have hx := numb_get hg.1 i (by omega)
    refine Ev.step (fun k => ?_) (ih (j + 1) (by omega))
    simp only [POrderSpread.demonref4_SquareError.l2]
    have hw : wrap64 (colTo m i j + (m.getD j []).getD i 0) = colTo m i (j + 1) := by rw [colTo_succ m i j (by omega)]; unfold wrap64; omega
    rw [if_pos (by omega), if_pos (by omega), if_pos (by omega), rdL_nat, if_pos (by omega), rd_nat, hw, wrap_up j (by omega)]
theorem squareError_l1 {m : List (List Int)} (h : m.all (goodRow m.length) = true) (h8 : m.length ≤ 8) : ∀ (d i : Nat), i + d = m.length → (List.range i).all (goodAt m) = true → Ev (fun k => POrderSpread.demonref4_SquareError.l1 k m (i : Int)) (if (List.range m.length).all (goodAt m) = true then 0 else 3) := by
  intro d
  induction d with
  | zero =>
    intro i hi ha
    obtain rfl : i = m.length := by omega
    rw [if_pos ha]
    refine Ev.step (f := fun _ => some 0) (fun k => ?_) (Ev.now _)
    simp only [POrderSpread.demonref4_SquareError.l1]
    rw [if_neg (by omega)]
  | succ d ih =>
    intro i hi ha
    have hl2 := squareError_l2 h h8 i (by omega) (if (List.range m.length).all (goodAt m) = true then 0 else 3) (fun hg => ih (i + 1) (by omega) (by rw [List.range_succ, List.all_append, ha]; simp [hg])) (fun hg => if_neg (fun ht => by
      have := List.all_eq_true.1 ht i (List.mem_range.2 (by omega))
      rw [hg] at this
      cases this)) m.length 0 (by omega)
    refine Ev.step (fun k => ?_) hl2
    simp only [POrderSpread.demonref4_SquareError.l1]
    rw [if_pos (by omega)]
    rfl
theorem squareError_l0 (m : List (List Int)) (h8 : m.length ≤ 8) (hr : ∀ r, r ∈ m → r.length ≤ 2000000) : ∀ (d i : Nat), i + d = m.length → (m.take i).all (goodRow m.length) = true → Ev (fun k => POrderSpread.demonref4_SquareError.l0 k m (i : Int)) (if (m.all (goodRow m.length) && (List.range m.length).all (goodAt m)) = true then 0 else 3) := by
  intro d
  induction d with
  | zero =>
    intro i hi ha
    obtain rfl : i = m.length := by omega
    rw [List.take_length] at ha
    rw [ha, Bool.true_and]
    refine Ev.step (fun k => ?_) (squareError_l1 ha h8 m.length 0 (by omega) rfl)
    simp only [POrderSpread.demonref4_SquareError.l0]
    rw [if_neg (by omega)]
    rfl
  | succ d ih =>
    intro i hi ha
    have hm : m.getD i [] ∈ m := by rw [getDL_eq m i (by omega)]; exact List.getElem_mem _
    have hn := numbersS_f (m.getD i []) (hr _ hm)
    have bad : goodRow m.length (m.getD i []) = false → (if (m.all (goodRow m.length) && (List.range m.length).all (goodAt m)) = true then (0 : Int) else 3) = 3 := fun hb => if_neg (fun ht => by
      rw [Bool.and_eq_true] at ht
      have := List.all_eq_true.1 ht.1 _ hm
      rw [hb] at this
      cases this)
    have body : Ev (fun k => (POrderSpread.demonref4_Numbers.f k (m.getD i [])).bind fun t => if t = true then (if ((m.getD i []).length : Int) = (m.length : Int) then POrderSpread.demonref4_SquareError.l0 k m (wrap64 ((i : Int) + 1)) else some 3) else some 3) (if (m.all (goodRow m.length) && (List.range m.length).all (goodAt m)) = true then 0 else 3) := by
      refine Ev.bind hn ?_
      by_cases c1 : numb (m.getD i []) = true
      · by_cases c2 : ((m.getD i []).length : Int) = (m.length : Int)
        · refine Ev.congr (fun k => by rw [if_pos c1, if_pos c2, wrap_up i (by omega)]) (ih (i + 1) (by omega) ?_)
          rw [takeL_at m i (by omega), List.all_append, ha]
          have c2' : (m.getD i []).length = m.length := by omega
          simp only [List.all_cons, List.all_nil, Bool.and_true, goodRow, c1, c2', decide_true]
        · rw [bad (by unfold goodRow; rw [decide_eq_false (by omega), Bool.and_false])]
          exact Ev.congr (fun k => by rw [if_pos c1, if_neg c2]) (Ev.now _)
      · rw [bad (by unfold goodRow; cases h : numb (m.getD i []) with
          | true => exact absurd h c1
          | false => rfl)]
        exact Ev.congr (fun k => by rw [if_neg c1]) (Ev.now _)
    refine Ev.step (fun k => ?_) body
    simp only [POrderSpread.demonref4_SquareError.l0]
    rw [if_pos (by omega), if_pos (by omega), rdL_nat]
theorem squareError_f (m : List (List Int)) (hr : ∀ r, r ∈ m → r.length ≤ 2000000) : Ev (fun k => POrderSpread.demonref4_SquareError.f k m) (sqErr m) := by
  unfold sqErr
  by_cases c1 : (m.length : Int) > 8
  · rw [if_pos (by omega)]
    exact Ev.congr (fun k => by unfold POrderSpread.demonref4_SquareError.f; rw [if_pos c1]) (Ev.now _)
  rw [if_neg (by omega)]
  by_cases c2 : (m.length : Int) = 0
  · rw [if_pos (by omega)]
    exact Ev.congr (fun k => by unfold POrderSpread.demonref4_SquareError.f; rw [if_neg c1, if_pos c2]) (Ev.now _)
  rw [if_neg (by omega)]
  exact Ev.congr (fun k => by unfold POrderSpread.demonref4_SquareError.f; rw [if_neg c1, if_neg c2]; rfl) (squareError_l0 m (by omega) hr m.length 0 (by omega) rfl)

/-- what a row makes of the first k weights -/
def dotTo (r w : List Int) (k : Nat) : Int := ((List.range k).map fun j => r.getD j 0 * w.getD j 0).sum
theorem dotTo_succ (r w : List Int) (k : Nat) : dotTo r w (k + 1) = dotTo r w k + r.getD k 0 * w.getD k 0 := by
  unfold dotTo
  rw [List.range_succ, List.map_append, List.sum_append]
  simp
def spreadOf (m : List (List Int)) (w : List Int) : List Int := m.map fun r => dotTo r w w.length
theorem mul_bound {x y : Int} (hx : 0 ≤ x ∧ x ≤ 4096) (hy : 0 ≤ y ∧ y ≤ 4096) : 0 ≤ x * y ∧ x * y ≤ 16777216 := by
  obtain ⟨q, hq, hq2⟩ : ∃ q : Nat, x * y = q ∧ q ≤ 4096 * 4096 := by
    obtain ⟨a, rfl⟩ := Int.eq_ofNat_of_zero_le hx.1
    obtain ⟨b, rfl⟩ := Int.eq_ofNat_of_zero_le hy.1
    exact ⟨a * b, by push_cast; rfl, Nat.mul_le_mul (by omega) (by omega)⟩
  omega
theorem dotTo_bound {r w : List Int} (hr : numb r = true) (hw : numb w = true) (hl : r.length = w.length) : ∀ k, k ≤ w.length → 0 ≤ dotTo r w k ∧ dotTo r w k ≤ 16777216 * (k : Int) := by
  intro k
  induction k with
  | zero => intro _; simp [dotTo]
  | succ k ih =>
    intro hk
    have h1 := ih (by omega)
    have h2 := mul_bound (numb_get hr k (by omega)) (numb_get hw k (by omega))
    rw [dotTo_succ]
    omega
theorem spreadOf_ev {m : List (List Int)} {w : List Int} (h : m.all (goodRow m.length) = true) (h8 : m.length ≤ 8) (hw : numb w = true) (hl : w.length = m.length) : ∀ (d i : Nat), i + d = m.length → Ev (fun k => POrderSpread.demonref4_SpreadOf.l0 k m w (spreadOf (m.take i) w) (i : Int)) (spreadOf m w) := by
  intro d
  induction d with
  | zero =>
    intro i hi
    obtain rfl : i = m.length := by omega
    rw [List.take_length]
    refine Ev.step (f := fun _ => some (spreadOf m w)) (fun k => ?_) (Ev.now _)
    simp only [POrderSpread.demonref4_SpreadOf.l0]
    rw [if_neg (by omega)]
  | succ d ih =>
    intro i hi
    have hg := goodRow_get h i (by omega)
    have hnx := ih (i + 1) (by omega)
    have hsp : spreadOf (m.take (i + 1)) w = spreadOf (m.take i) w ++ [dotTo (m.getD i []) w w.length] := by
      unfold spreadOf
      rw [takeL_at m i (by omega), List.map_append]
      rfl
    have hlen : (spreadOf (m.take i) w).length = i := by unfold spreadOf; rw [List.length_map, List.length_take]; omega
    rw [hsp] at hnx
    have inner : ∀ (c j : Nat), j + c = w.length → Ev (fun k => POrderSpread.demonref4_SpreadOf.l1 k m w (spreadOf (m.take i) w) (i : Int) (dotTo (m.getD i []) w j) (j : Int)) (spreadOf m w) := by
      intro c
      induction c with
      | zero =>
        intro j hj
        obtain rfl : j = w.length := by omega
        refine Ev.step (fun k => ?_) hnx
        simp only [POrderSpread.demonref4_SpreadOf.l1]
        rw [if_neg (by omega), if_pos (by rw [hlen]; omega), wrap_up i (by omega)]
      | succ c ihc =>
        intro j hj
        have hb := dotTo_bound hg.1 hw (by omega) j (by omega)
        have hm := mul_bound (numb_get hg.1 j (by omega)) (numb_get hw j (by omega))
        refine Ev.step (fun k => ?_) (ihc (j + 1) (by omega))
        have w1 : wrap64 ((m.getD i []).getD j 0 * w.getD j 0) = (m.getD i []).getD j 0 * w.getD j 0 := by unfold wrap64; omega
        have w2 : wrap64 (dotTo (m.getD i []) w j + (m.getD i []).getD j 0 * w.getD j 0) = dotTo (m.getD i []) w (j + 1) := by rw [dotTo_succ]; unfold wrap64; omega
        simp only [POrderSpread.demonref4_SpreadOf.l1]
        rw [if_pos (by omega), if_pos (by omega), if_pos (by omega), if_pos (by omega), rdL_nat, if_pos (by omega), rd_nat, rd_nat, w1, w2, wrap_up j (by omega)]
    refine Ev.step (fun k => ?_) (inner w.length 0 (by omega))
    simp only [POrderSpread.demonref4_SpreadOf.l0]
    rw [if_pos (by omega)]
    rfl
theorem spreadOf_f {m : List (List Int)} {w : List Int} (h : m.all (goodRow m.length) = true) (h8 : m.length ≤ 8) (hw : numb w = true) (hl : w.length = m.length) : Ev (fun k => POrderSpread.demonref4_SpreadOf.f k m w) (spreadOf m w) := spreadOf_ev h h8 hw hl m.length 0 (by omega)
end Go.Proofs.YtcnecmcbjpehcaaDoor

/- Between our words for memory and those of the printed texts: a slice that reads as a list, a table. No condition. -/
namespace Go.Proofs.YtcnecmcbjpehcaaDoor
open Go.RowKit Go.Deep Go.Proofs.YtcnecmcbjpehcaaDoorW.PrintWords

theorem Ints.toC {w : World} {A : Option Addr} {l : List Int} (h : Ints w A l) : Kd.C (Kd.int .i64) w A l.length l := by
  refine ⟨rfl, h.len, fun hn => ?_⟩
  obtain ⟨b, off, rfl, _, _⟩ := h.at_ 0 hn
  refine ⟨_, rfl, fun j p hj => ⟨[.int .i64 p], rfl, rfl, fun i u hu => ?_⟩⟩
  have hjl : j < l.length := by
    rcases Nat.lt_or_ge j l.length with h1 | h1
    · exact h1
    · rw [List.getElem?_eq_none h1] at hj; cases hj
  obtain ⟨b', off', e, _, hc⟩ := h.at_ j hjl
  injection e with e
  injection e with e1 e2 _
  subst e1 e2
  have hi : i = 0 := by
    rcases Nat.eq_zero_or_pos i with h1 | h1
    · exact h1
    · rw [List.getElem?_eq_none (by simp; omega)] at hu; cases hu
  subst hi
  rw [addr_add]
  have hp : l.getD j 0 = p := by rw [List.getD_eq_getElem?_getD, hj]; rfl
  rw [hp] at hc
  simp at hu
  subst hu
  show w.cell? ⟨b, off + (j * 1 + 0), none⟩ = _
  rw [Nat.mul_one, Nat.add_zero]
  exact hc
theorem Ints.ofC {w : World} {g off : Nat} {l : List Int} (h : Kd.C (Kd.int .i64) w (some ⟨g, off, none⟩) l.length l) : Ints w (some ⟨g, off, none⟩) l :=
  ⟨h.2.1, fun i hi => by
    obtain ⟨ad, c, e, _, hK, hc⟩ := Kd.C_get h 0 i (by omega) (by omega)
    obtain rfl := Option.some.inj e
    have hK' : c = [.int .i64 (l.getD i 0)] := hK
    subst hK'
    have h1 := hc 0 _ rfl
    rw [addr_add] at h1
    have h2 : w.cell? ⟨g, off + i, none⟩ = some (.int .i64 (l.getD i 0)) := by
      have e1 : off + ((i : Int).toNat * (Kd.int IntKind.i64).sz + 0) = off + i := by
        show off + ((i : Int).toNat * 1 + 0) = off + i
        omega
      rw [e1] at h1
      exact h1
    exact ⟨g, off, rfl, World.block_lt_of_cell? w _ h2, h2⟩⟩
theorem Ints.ofR {w : World} {e base : Nat} {ok : Nat → Prop} {v : Value} {l : List Int} (h : Kd.R (Kd.int .i64) e w base ok v l) : ∃ A c, v = .slice A l.length c ∧ Ints w A l ∧ l.length ≤ c := by
  obtain ⟨A, c, rfl, hc, hC⟩ := Kd.R_reads h
  refine ⟨A, c, rfl, ?_, hc⟩
  rcases Nat.eq_zero_or_pos l.length with h0 | h0
  · rw [List.eq_nil_of_length_eq_zero h0]; exact Ints.nil w A
  · obtain ⟨g, cap, e1, _⟩ := Kd.R_form h h0
    injection e1 with e1
    subst e1
    exact Ints.ofC hC
theorem Lists.toC {w : World} {A : Option Addr} {l : List (List Int)} (h : Lists w A l) : Kd.C (Kd.slice 3 (Kd.int .i64)) w A l.length l := by
  refine ⟨rfl, h.len, fun hn => ?_⟩
  obtain ⟨b, off, _, _, rfl, _⟩ := h.at_ 0 hn
  refine ⟨_, rfl, fun j p hj => ?_⟩
  have hjl : j < l.length := by
    rcases Nat.lt_or_ge j l.length with h1 | h1
    · exact h1
    · rw [List.getElem?_eq_none h1] at hj; cases hj
  obtain ⟨b', off', A', c, e, _, hc, hle, hI⟩ := h.at_ j hjl
  injection e with e
  injection e with e1 e2 _
  subst e1 e2
  have hp : l.getD j [] = p := by rw [List.getD_eq_getElem?_getD, hj]; rfl
  rw [hp] at hc hle hI
  refine ⟨[.slice A' p.length c], rfl, ⟨A', c, rfl, hle, hI.toC⟩, fun i u hu => ?_⟩
  have hi : i = 0 := by
    rcases Nat.eq_zero_or_pos i with h1 | h1
    · exact h1
    · rw [List.getElem?_eq_none (by simp; omega)] at hu; cases hu
  subst hi
  simp at hu
  subst hu
  rw [addr_add]
  show w.cell? ⟨b, off + (j * 1 + 0), none⟩ = _
  rw [Nat.mul_one, Nat.add_zero]
  exact hc
theorem Lists.ofR {w : World} {e base : Nat} {ok : Nat → Prop} {v : Value} {l : List (List Int)} (h : Kd.R (Kd.slice 3 (Kd.int .i64)) e w base ok v l) : ∃ A c, v = .slice A l.length c ∧ Lists w A l ∧ l.length ≤ c := by
  obtain ⟨A, c, rfl, hc, hC⟩ := Kd.R_reads h
  refine ⟨A, c, rfl, ?_, hc⟩
  rcases Nat.eq_zero_or_pos l.length with h0 | h0
  · rw [List.eq_nil_of_length_eq_zero h0]; exact Lists.nil w A
  · obtain ⟨g, cap, e1, _⟩ := Kd.R_form h h0
    injection e1 with e1
    subst e1
    refine ⟨hC.2.1, fun i hi => ?_⟩
    obtain ⟨_, inner, ho, hr⟩ := h
    have hp : l[i]? = some (l.getD i []) := by rw [List.getD_eq_getElem?_getD, List.getElem?_eq_getElem hi]; rfl
    obtain ⟨u, hu, hR⟩ := hr.2 i _ hp
    obtain ⟨A', c', rfl, hI, hle⟩ := Ints.ofR hR
    have hin : inner[i]? = some (.slice A' (l.getD i []).length c') := by
      have h1 : ((inner.drop (i * 1)).take 1)[0]? = some (.slice A' (l.getD i []).length c') := by
        have : ((inner.drop (i * 1)).take 1) = [.slice A' (l.getD i []).length c'] := hu
        rw [this]
        rfl
      rw [List.getElem?_take_of_lt (by omega), List.getElem?_drop, Nat.mul_one, Nat.add_zero] at h1
      exact h1
    have hcell : w.cell? ⟨g, 0 + i, none⟩ = some (.slice A' (l.getD i []).length c') := by
      have := ho.cells (g := g) rfl i _ hin
      rw [addr_add] at this
      exact this
    exact ⟨g, 0, A', c', rfl, World.block_lt_of_cell? w _ hcell, hcell, hle, hI⟩
theorem drawn_below {w w' : World} (h : Drawn0 w w') : Below w.heap.size w w' := by
  obtain ⟨n, rfl⟩ := h
  exact below_drewN' (Below.refl _ _) n
theorem rd_getD (l : List Int) (i : Nat) : rd l (i : Int) = l.getD i 0 := rfl
end Go.Proofs.YtcnecmcbjpehcaaDoor

/- The walks of order.numbers, falling, above, lists, Above. No condition. -/
namespace Go.Proofs.YtcnecmcbjpehcaaDoor
open Go.RowKit Go.Deep Go.Proofs.YtcnecmcbjpehcaaDoorW.PrintWords

theorem num_pred (w : World) (x : Int) : ∀ W, Below w.heap.size w W → Calls Tryd.prog 57 #[.int .i64 x] W fun e w' => e = .returned (.bool (badNum x)) ∧ Below w.heap.size w w' := fun W hb => by
  go_enter Tryd.func57, Tryd.ntmps57
  go_wp2_with (fail)
  · go_ret
    exact ⟨rfl, hb⟩
  · go_ret
    have h : x < 0 := by assumption
    exact ⟨by simp [badNum, h], hb⟩
theorem anyQ_take (q : Int → Bool) (l : List Int) (i : Nat) (h : i < l.length) : (l.take (i + 1)).any q = ((l.take i).any q || q (l.getD i 0)) := by
  rw [take_at l i h, List.any_append]
  simp
set_option maxHeartbeats 1000000 in
theorem indexNum_any (A : Option Addr) (l : List Int) (c : Nat) (w : World) (hA : Ints w A l) :
    Calls Tryd.prog 73 #[.slice A l.length c, .func (.func 57) #[] #[]] w fun e w' => ∃ r : Int, e = .returned (.int .i64 r) ∧ decide (0 ≤ r) = l.any badNum ∧ Below w.heap.size w w' := by
  have eg : ∀ args w, (callFunc 57 args).run Tryd.prog w = .ok (.enter 57 args) w := enters_of Tryd.func57 (by kernel_rfl) rfl
  have HP := hide (fun x W (hb : Below w.heap.size w W) => num_pred w x W hb)
  have hlen := hA.len
  go_enter Tryd.func73, Tryd.ntmps73
  go_wp2_with (fail)
  go_loopw [5, 8] (fun _ v wr => ∃ i : Nat, i ≤ l.length ∧ v = .int .i64 i ∧ Below w.heap.size w wr ∧ (l.take i).any badNum = false) (fun _ v _ => l.length - (intOf v).toNat)
  case atStart => exact ⟨0, Nat.zero_le _, rfl, Below.refl _ _, by simp⟩
  case round =>
    obtain ⟨i, hi, rfl, hBi, hn⟩ := hrel
    obtain ⟨wi, rfl⟩ : ∃ wi : World, wi = wr := ⟨_, rfl⟩
    have i0 : (0 : Int) ≤ (i : Int) := Int.natCast_nonneg _
    by_cases hil : i < l.length
    · have i1 : (i : Int) < (l.length : Int) := by omega
      obtain ⟨b, off, rfl, _, d1⟩ := (hA.below hBi).at_ i hil
      have hnx := anyQ_take badNum l i hil
      rw [hn, Bool.false_or] at hnx
      have hyes : badNum (l.getD i 0) = true → l.any badNum = true := fun h => by
        rw [List.any_eq_true]
        rw [getD_eq l i 0 hil] at h
        exact ⟨l[i], List.getElem_mem hil, h⟩
      have hcall := HP.out (l.getD i 0) wi hBi
      generalize l.getD i 0 = x at d1 hnx hyes hcall
      generalize hq : badNum x = q at hnx hyes hcall
      have HC := hide hcall
      have HNX := hide hnx
      have HY := hide hyes
      clear hcall hnx hyes hn hq
      cases q
      · go_wp2_with (go_at_fn 57; refine Calls.mono HC.out ?_; rintro e w1 ⟨rfl, hb1⟩)
        go_roundw
        case rel => exact ⟨i + 1, by omega, by go_num, hb1, HNX.out⟩
        case measure => simp [intOf]; omega
      · go_wp2_with (go_at_fn 57; refine Calls.mono HC.out ?_; rintro e w1 ⟨rfl, hb1⟩)
        go_ret
        exact ⟨(i : Int), rfl, by rw [HY.out (by trivial)]; exact decide_eq_true i0, hb1⟩
    · obtain rfl : i = l.length := by omega
      rw [List.take_length] at hn
      have HN := hide hn
      clear hn
      go_wp2_with (fail)
      go_ret
      exact ⟨-1, rfl, by rw [HN.out]; rfl, hBi⟩
theorem containsNum_any (A : Option Addr) (l : List Int) (c : Nat) (w : World) (hA : Ints w A l) :
    Calls Tryd.prog 56 #[.slice A l.length c, .func (.func 57) #[] #[]] w fun e w' => e = .returned (.bool (l.any badNum)) ∧ Below w.heap.size w w' := by
  have HC := hide (indexNum_any A l c w hA)
  go_enter Tryd.func56, Tryd.ntmps56
  go_wp2_with (go_at_call 73; refine Calls.mono HC.out ?_; rintro e w1 ⟨r, rfl, hr, hb1⟩)
  go_ret
  exact ⟨by rw [← hr]; rfl, hb1⟩
theorem numbers_any (A : Option Addr) (l : List Int) (c : Nat) (w : World) (hA : Ints w A l) :
    Calls Tryd.prog 46 #[.slice A l.length c] w fun e w' => e = .returned (.bool (numb l)) ∧ Below w.heap.size w w' := by
  have hc := containsNum_any A l c w hA
  have e : l.any badNum = !numb l := by unfold numb; rw [Bool.not_not]
  rw [e] at hc
  have HC := hide hc
  clear hc e
  generalize numb l = q at HC ⊢
  go_enter Tryd.func46, Tryd.ntmps46
  go_wp2_with (go_at_call 56; refine Calls.mono HC.out ?_; rintro e w1 ⟨rfl, hb1⟩)
  go_ret
  exact ⟨rfl, hb1⟩
theorem total_ok (A : Option Addr) (l : List Int) (c : Nat) (w : World) (hA : Ints w A l) (hc : l.length ≤ c) (hs : Small l) :
    Calls Tryd.prog 41 #[.slice A l.length c] w fun e w' => e = .returned (.int .i64 l.sum) ∧ Below w.heap.size w w' := by
  obtain ⟨k, hk⟩ := (total_f hs).rounds
  refine (POrderAbove.dist_Total.calls k A c l l.sum w hA.toC hc hk).mono ?_
  rintro e w' ⟨rfl, h⟩
  exact ⟨rfl, drawn_below h⟩
theorem falling_ok (A : Option Addr) (l : List Int) (c : Nat) (w : World) (hA : Ints w A l) (h0 : 0 < l.length) (hl : l.length ≤ 2000000) :
    Calls Tryd.prog 48 #[.slice A l.length c] w fun e w' => ∃ B d, e = .returned (.slice B l.length d) ∧ Ints w' B (falls l) ∧ l.length ≤ d ∧ Below w.heap.size w w' := by
  have HC := hide (clone_ok A l c w hA h0 hl)
  go_enter Tryd.func48, Tryd.ntmps48
  go_wp2_with (first
    | (go_at_call 40; refine Calls.mono HC.out ?_; rintro e w1 ⟨g, d, rfl, hg, hd, ho, hb⟩)
    | (go_at_call 59; refine Calls.mono (sort_ok w.heap.size g l.length d l w w1 hg ho hb hl) ?_; rintro e w2 ⟨rfl, ho2, hb2⟩)
    | (go_at_call 60; refine Calls.mono (reverse_ok w.heap.size g l.length d (sorted l) w w2 hg ho2 hb2 (by rw [sorted_length]; omega)) ?_; rintro e w3 ⟨rfl, ho3, hb3⟩))
  go_ret
  exact ⟨_, d, rfl, own_ints ho3 (falls_length l), hd, hb3⟩

/-- what is left over of the first k -/
def leftTo (a b : List Int) (k : Nat) : Int := (a.take k).sum - (b.take k).sum
theorem leftTo_succ (a b : List Int) (k : Nat) (ha : k < a.length) (hb : k < b.length) : leftTo a b (k + 1) = leftTo a b k + (a.getD k 0 - b.getD k 0) := by
  unfold leftTo
  rw [sum_take a k ha, sum_take b k hb]
  omega
theorem leftTo_bound {a b : List Int} (ha : Small a) (hb : Small b) (k : Nat) (h1 : k ≤ a.length) (h2 : k ≤ b.length) : -2199023255552000000 ≤ leftTo a b k ∧ leftTo a b k ≤ 2199023255552000000 := by
  have e1 := ha.sum k h1
  have e2 := hb.sum k h2
  have e3 := ha.1
  unfold leftTo
  omega
set_option maxHeartbeats 2000000 in
theorem above_ok (A B : Option Addr) (p q : List Int) (c d : Nat) (w : World) (hA : Ints w A p) (hB : Ints w B q) (hp : Small p) (hq : Small q) (h0 : 0 < p.length) (hpq : p.length = q.length) :
    Calls Tryd.prog 44 #[.slice A p.length c, .slice B q.length d] w fun e w' => e = .returned (.bool (aboveB p q)) ∧ Below w.heap.size w w' := by
  have hpl := hp.1
  obtain ⟨r, hr⟩ : ∃ r, aboveB p q = r := ⟨_, rfl⟩
  rw [hr]
  have HR := hide (show aboveTo (falls p) (falls q) (p.length + 1) = r from hr)
  clear hr
  have hF1 := falling_ok A p c w hA h0 (by omega)
  have hF2 := fun w' (hb : Below w.heap.size w w') => falling_ok B q d w' (hB.below hb) (by omega) (by omega)
  rw [← hpq] at hF2 ⊢
  have HF1 := hide hF1
  have HF2 := hide hF2
  have HPQ := hide hpq
  clear hF1 hF2 hpq
  go_enter Tryd.func44, Tryd.ntmps44
  go_wp2_with (first
    | (go_at_call 48; refine Calls.mono HF1.out ?_; rintro e w1 ⟨A1, c1, rfl, hI1, hc1, b1⟩; clear HF1)
    | (go_at_call 48; refine Calls.mono (HF2.out w1 b1) ?_; rintro e w2 ⟨A2, c2, rfl, hI2, hc2, b2⟩; have hB2 := below_trans b1 b2))
  have hI12 := hI1.below b2
  have hsp := falls_small hp
  have hsq := falls_small hq
  have hla := falls_length p
  have hlb : (falls q).length = p.length := by rw [falls_length, HPQ.out]
  have a1 : aboveTo (falls p) (falls q) 1 = true := by unfold aboveTo; simp
  generalize falls p = a at hI12 hsp hla HR a1
  generalize falls q = b at hI2 hsq hlb HR a1
  have HLA := hide hla
  have HLB := hide hlb
  have HA1 := hide a1
  clear hI1 hla hlb a1
  go_loopw [7, 15] (fun lv iv wr => ∃ i : Nat, i ≤ p.length ∧ iv = .int .i64 i ∧ lv = .int .i64 (leftTo a b i) ∧ Hid (aboveTo a b (i + 1) = true) ∧ Below w2.heap.size w2 wr) (fun _ iv _ => p.length - (intOf iv).toNat)
  case atStart => exact ⟨0, Nat.zero_le _, rfl, rfl, HA1, Below.refl _ _⟩
  case round =>
    obtain ⟨i, hi, rfl, rfl, HT, hBi⟩ := hrel
    obtain ⟨wi, rfl⟩ : ∃ wi : World, wi = wr := ⟨_, rfl⟩
    have i0 : (0 : Int) ≤ (i : Int) := Int.natCast_nonneg _
    by_cases hil : i < p.length
    · have i1 : (i : Int) < (p.length : Int) := by omega
      have la := HLA.out
      have lb := HLB.out
      obtain ⟨ba, oa, rfl, _, da⟩ := (hI12.below hBi).at_ i (by omega)
      obtain ⟨bb, ob, rfl, _, db⟩ := (hI2.below hBi).at_ i (by omega)
      have hls := leftTo_succ a b i (by omega) (by omega)
      obtain ⟨m1, m2⟩ := leftTo_bound hsp hsq i (by omega) (by omega)
      have hat := aboveTo_succ a b (i + 1)
      have hge : decide ((b.take (i + 1)).sum ≤ (a.take (i + 1)).sum) = decide (0 ≤ leftTo a b (i + 1)) := by
        unfold leftTo
        by_cases h : (b.take (i + 1)).sum ≤ (a.take (i + 1)).sum
        · rw [decide_eq_true h, decide_eq_true (by omega)]
        · rw [decide_eq_false h, decide_eq_false (by omega)]
      rw [HT.out, Bool.true_and, hge] at hat
      have hno : leftTo a b (i + 1) < 0 → r = false := fun h => by
        rw [← HR.out]
        refine aboveTo_false (n := i + 1) (fun h2 => ?_) (by omega)
        unfold leftTo at h
        omega
      obtain ⟨x1, x2⟩ := hsp.get i (by omega)
      obtain ⟨y1, y2⟩ := hsq.get i (by omega)
      clear la lb
      generalize a.getD i 0 = x at da hls x1 x2
      generalize b.getD i 0 = y at db hls y1 y2
      rw [hls] at hat hno
      generalize leftTo a b i = lf at hls hat hno m1 m2
      have HLS := hide hls
      have HAT := hide hat
      have HNO := hide hno
      clear hls hat hno hge
      go_wp2_with (fail)
      go_quiet (fail)
      go_wp2_with (fail)
      · go_ret
        exact ⟨by rw [HNO.out (by omega)]; rfl, below_trans hB2 (below_drewN' hBi _)⟩
      · go_roundw
        case rel => exact ⟨i + 1, by omega, by go_num, by rw [HLS.out], hide (by rw [HAT.out]; exact decide_eq_true (by omega)), below_drewN' hBi _⟩
        case measure => simp [intOf]; omega
    · obtain rfl : i = p.length := by omega
      have ht := HT.out
      rw [HR.out] at ht
      subst ht
      go_wp2_with (fail)
      go_ret
      exact ⟨rfl, below_trans hB2 hBi⟩
end Go.Proofs.YtcnecmcbjpehcaaDoor
