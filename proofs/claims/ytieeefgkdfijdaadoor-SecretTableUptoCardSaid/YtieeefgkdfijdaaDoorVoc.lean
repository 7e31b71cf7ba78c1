/- The words of our walks: a slice that reads as a list of whole numbers, of pairs, of lists; what memory keeps; the sentinels' cells. No condition. -/
import Derived.Test.YtieeefgkdfijdaaDoorProg
import Derived.WalkKit
import Derived.WalkSpells
import Derived.WalkLawsBesides
import Derived.BigQuiet
import Derived.Deep.QuietTactic
import Derived.Deep.OwnRows
import Derived.OwnWalk
import Derived.Laws.MakeOwn
import Derived.Laws.OwnMore
import Derived.Deep.LoopGhost
namespace Go.Proofs.YtieeefgkdfijdaaDoor
open Go.RowKit Go.Deep

theorem hide {p : Prop} (h : p) : Hid p := h

/-- the slice at A reads as the numbers l -/
structure Ints (w : World) (A : Option Addr) (l : List Int) : Prop where
  len : l.length ≤ 9223372036854775807
  at_ : ∀ i, i < l.length → ∃ b off, A = some ⟨b, off, none⟩ ∧ b < w.heap.size ∧ w.cell? ⟨b, off + i, none⟩ = some (.int .i64 (l.getD i 0))

/-- the slice at A reads as the pairs l -/
structure Pairs (w : World) (A : Option Addr) (l : List (Int × Int)) : Prop where
  len : l.length ≤ 9223372036854775807
  at_ : ∀ i, i < l.length → ∃ b off, A = some ⟨b, off, none⟩ ∧ b < w.heap.size ∧ w.cell? ⟨b, off + i * 2, none⟩ = some (.int .i64 (l.getD i (0, 0)).1) ∧ w.cell? ⟨b, off + i * 2 + 1, none⟩ = some (.int .i64 (l.getD i (0, 0)).2)

/-- the slice at A reads as the lists l -/
structure Lists (w : World) (A : Option Addr) (l : List (List Int)) : Prop where
  len : l.length ≤ 9223372036854775807
  at_ : ∀ i, i < l.length → ∃ b off A' c, A = some ⟨b, off, none⟩ ∧ b < w.heap.size ∧ w.cell? ⟨b, off + i, none⟩ = some (.slice A' (l.getD i []).length c) ∧ (l.getD i []).length ≤ c ∧ Ints w A' (l.getD i [])

theorem Ints.below {w w' : World} {A : Option Addr} {l : List Int} (h : Ints w A l) (hb : Below w.heap.size w w') : Ints w' A l :=
  ⟨h.len, fun i hi => by
    obtain ⟨b, off, e, h1, h2⟩ := h.at_ i hi
    exact ⟨b, off, e, Nat.lt_of_lt_of_le h1 hb.size, (hb.cell (p := ⟨b, off + i, none⟩) h1).trans h2⟩⟩
theorem Pairs.below {w w' : World} {A : Option Addr} {l : List (Int × Int)} (h : Pairs w A l) (hb : Below w.heap.size w w') : Pairs w' A l :=
  ⟨h.len, fun i hi => by
    obtain ⟨b, off, e, h1, h2, h3⟩ := h.at_ i hi
    exact ⟨b, off, e, Nat.lt_of_lt_of_le h1 hb.size, (hb.cell (p := ⟨b, off + i * 2, none⟩) h1).trans h2, (hb.cell (p := ⟨b, off + i * 2 + 1, none⟩) h1).trans h3⟩⟩
theorem Lists.below {w w' : World} {A : Option Addr} {l : List (List Int)} (h : Lists w A l) (hb : Below w.heap.size w w') : Lists w' A l :=
  ⟨h.len, fun i hi => by
    obtain ⟨b, off, A', c, e, h1, h2, h3, h4⟩ := h.at_ i hi
    exact ⟨b, off, A', c, e, Nat.lt_of_lt_of_le h1 hb.size, (hb.cell (p := ⟨b, off + i, none⟩) h1).trans h2, h3, h4.below hb⟩⟩
theorem Ints.nil (w : World) (A : Option Addr) : Ints w A [] := ⟨by simp, fun i h => absurd h (by simp)⟩
theorem Pairs.nil (w : World) (A : Option Addr) : Pairs w A [] := ⟨by simp, fun i h => absurd h (by simp)⟩
theorem Lists.nil (w : World) (A : Option Addr) : Lists w A [] := ⟨by simp, fun i h => absurd h (by simp)⟩

theorem below_then {B : Nat} {w w1 w2 : World} (h : Below B w w1) (hB : B ≤ w1.heap.size) (k : Below w1.heap.size w1 w2) : Below B w w2 :=
  h.trans (k.mono hB)
theorem below_trans {w w1 w2 : World} (h : Below w.heap.size w w1) (k : Below w1.heap.size w1 w2) : Below w.heap.size w w2 :=
  h.trans (k.mono h.size)
theorem below_drewN' {B : Nat} {a w : World} (h : Below B a w) (n : Nat) : Below B a (w.drewN n) := ⟨h.os, h.tape, h.output, h.size, h.block⟩
theorem below_alloc' {w W : World} (h : Below w.heap.size w W) (o : Obj) : Below w.heap.size w (W.alloc o) := h.alloc h.size o
theorem below_cells {B : Nat} {W w1 : World} (hb : Below B W w1) : (∀ b o, b < B → w1.cell? ⟨b, o, none⟩ = W.cell? ⟨b, o, none⟩) ∧ (∀ b o, b < B → w1.frozen? ⟨b, o, none⟩ = W.frozen? ⟨b, o, none⟩) :=
  ⟨fun b o h => hb.cell (p := ⟨b, o, none⟩) h, fun b o h => hb.frozen (p := ⟨b, o, none⟩) h⟩

theorem below_of_grown {W w1 : World} {v : Value} (hg : W.grownBy w1 v.ownBlock) (h : v.ownBlock = none) : Below W.heap.size W w1 :=
  ⟨hg.os, hg.tape, hg.output, hg.size, fun k hk => hg.block k hk (by rw [h]; simp)⟩

/-- a row known whole reads as the list of its numbers -/
theorem Ints.ofRow {w : World} {b n : Nat} {t : TypeId} {f : Nat → Int} (h : w.rowIs b t n (fun i => .int .i64 (f i))) (hn : n ≤ 9223372036854775807) : Ints w (some ⟨b, 0, none⟩) ((List.range n).map f) :=
  ⟨by simpa using hn, fun i hi => by
    have hi' : i < n := by simpa using hi
    refine ⟨b, 0, rfl, h.lt, ?_⟩
    have := h.cell hi'
    simpa [List.getD_eq_getElem?_getD, List.getElem?_map, List.getElem?_range hi'] using this⟩

/-- the number of the variable of an error's code -/
def glob : Nat → Nat
  | 1 => 3 | 2 => 0 | 3 => 1 | 4 => 4 | 5 => 5 | 6 => 6 | 7 => 7 | _ => 2
/-- the error value whose text lies at a -/
def errAt (a : Addr) : Value := .iface 161 (.pointer (some a))
/-- the error of a code -/
def errC (a : Nat → Addr) (c : Int) : Value := if c = 0 then .nilIface else errAt (a c.toNat)
theorem errC_zero (a : Nat → Addr) : errC a 0 = .nilIface := rfl
theorem errC_two (a : Nat → Addr) : errC a 2 = .iface 161 (.pointer (some (a 2))) := rfl
theorem errC_three (a : Nat → Addr) : errC a 3 = .iface 161 (.pointer (some (a 3))) := rfl
/-- the sentinels of the codes S hold errors at the places a -/
structure Env (S : List Nat) (w : World) (a : Nat → Addr) : Prop where
  cell : ∀ c, c ∈ S → w.cell? ⟨glob c, 0, none⟩ = some (.iface 161 (.pointer (some (a c))))
theorem Env.below {S : List Nat} {w w' : World} {a : Nat → Addr} (h : Env S w a) (hb : Below w.heap.size w w') : Env S w' a :=
  ⟨fun c hc => (hb.cell (p := ⟨glob c, 0, none⟩) (World.block_lt_of_cell? w _ (h.cell c hc))).trans (h.cell c hc)⟩
theorem Env.lt {S : List Nat} {w : World} {a : Nat → Addr} (h : Env S w a) {c : Nat} (hc : c ∈ S) : glob c < w.heap.size := World.block_lt_of_cell? w _ (h.cell c hc)
theorem Env.sub {S S' : List Nat} {w : World} {a : Nat → Addr} (h : Env S w a) (hs : ∀ c, c ∈ S' → c ∈ S) : Env S' w a := ⟨fun c hc => h.cell c (hs c hc)⟩
/-- a slice that reads as l, and no error -/
def RetIntsErr (l : List Int) (w : World) (e : Ending) (w' : World) : Prop :=
  ∃ A c, e = .returned (.tuple #[.slice A l.length c, .nilIface]) ∧ Ints w' A l ∧ l.length ≤ c ∧ Below w.heap.size w w'
/-- a slice that reads as l -/
def RetInts (l : List Int) (w : World) (e : Ending) (w' : World) : Prop :=
  ∃ A c, e = .returned (.slice A l.length c) ∧ Ints w' A l ∧ l.length ≤ c ∧ Below w.heap.size w w'
theorem ret_int {k : IntKind} {a b : Int} (h : a = b) : Ending.returned (.int k a) = .returned (.int k b) := by rw [h]
theorem ret_bool {a b : Bool} (h : a = b) : Ending.returned (.bool a) = .returned (.bool b) := by rw [h]
end Go.Proofs.YtieeefgkdfijdaaDoor
