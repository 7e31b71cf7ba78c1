/- Words, plain laws and walks behind the law ZeroValid, part 1. No condition. -/
import Derived.Test.YtehheklbibocjaaDoorProg
import Derived.WalkKit
import Derived.WalkSpells
import Derived.WalkLawsBesides
import Derived.BigQuiet
import Derived.Deep.QuietTactic
import Derived.Deep.OwnRows
import Derived.OwnWalk
import Derived.Laws.MakeOwn
import Derived.Laws.OwnMore
import Derived.Deep.LoopGhost
import Derived.Maps.AppendAt
import Derived.Deep.AppendLies
import Derived.RegionTactic
import Derived.Deep.Draws
import Derived.Test.YtehheklbibocjaaDoorWWords
import Derived.Test.YtehheklbibocjaaDoorWApart
import Derived.Test.YtehheklbibocjaaDoorPZeroValidx1
import Derived.Test.YtehheklbibocjaaDoorPZeroValidx2
import Derived.Test.YtehheklbibocjaaDoorPZeroValidx3
import Derived.Shelf.Small.Wraps
import Derived.Shelf.Slices.Turned
import Derived.Ground.Names2Prog
import Derived.Shelf.Slices.Clone
import Derived.Shelf.Slices.SearchI
import Derived.Test.YtehheklbibocjaaDoorPZeroAlonex1
import Derived.Laws.BitsAllLaws
import Derived.Laws.BitsLemmas
import Derived.Laws.Bits64

/- The words of our walks: a slice that reads as a list of whole numbers, of pairs, of lists; what memory keeps; the sentinels' cells. No condition. -/
namespace Go.Proofs.YtehheklbibocjaaDoor
open Go.RowKit Go.Deep

theorem hide {p : Prop} (h : p) : Hid p := h

/-- the slice at A reads as the numbers l -/
structure Ints (w : World) (A : Option Addr) (l : List Int) : Prop where
  len : l.length ≤ 9223372036854775807
  at_ : ∀ i, i < l.length → ∃ b off, A = some ⟨b, off, none⟩ ∧ b < w.heap.size ∧ w.cell? ⟨b, off + i, none⟩ = some (.int .i64 (l.getD i 0))

/-- the slice at A reads as the pairs l -/
structure Pairs (w : World) (A : Option Addr) (l : List (Int × Int)) : Prop where
  len : l.length ≤ 9223372036854775807
  at_ : ∀ i, i < l.length → ∃ b off, A = some ⟨b, off, none⟩ ∧ b < w.heap.size ∧ w.cell? ⟨b, off + i * 2, none⟩ = some (.int .i64 (l.getD i (0, 0)).1) ∧ w.cell? ⟨b, off + i * 2 + 1, none⟩ = some (.int .i64 (l.getD i (0, 0)).2)

/-- the slice at A reads as the lists l -/
structure Lists (w : World) (A : Option Addr) (l : List (List Int)) : Prop where
  len : l.length ≤ 9223372036854775807
  at_ : ∀ i, i < l.length → ∃ b off A' c, A = some ⟨b, off, none⟩ ∧ b < w.heap.size ∧ w.cell? ⟨b, off + i, none⟩ = some (.slice A' (l.getD i []).length c) ∧ (l.getD i []).length ≤ c ∧ Ints w A' (l.getD i [])

theorem Ints.below {w w' : World} {A : Option Addr} {l : List Int} (h : Ints w A l) (hb : Below w.heap.size w w') : Ints w' A l :=
  ⟨h.len, fun i hi => by
    obtain ⟨b, off, e, h1, h2⟩ := h.at_ i hi
    exact ⟨b, off, e, Nat.lt_of_lt_of_le h1 hb.size, (hb.cell (p := ⟨b, off + i, none⟩) h1).trans h2⟩⟩
theorem Pairs.below {w w' : World} {A : Option Addr} {l : List (Int × Int)} (h : Pairs w A l) (hb : Below w.heap.size w w') : Pairs w' A l :=
  ⟨h.len, fun i hi => by
    obtain ⟨b, off, e, h1, h2, h3⟩ := h.at_ i hi
    exact ⟨b, off, e, Nat.lt_of_lt_of_le h1 hb.size, (hb.cell (p := ⟨b, off + i * 2, none⟩) h1).trans h2, (hb.cell (p := ⟨b, off + i * 2 + 1, none⟩) h1).trans h3⟩⟩
theorem Lists.below {w w' : World} {A : Option Addr} {l : List (List Int)} (h : Lists w A l) (hb : Below w.heap.size w w') : Lists w' A l :=
  ⟨h.len, fun i hi => by
    obtain ⟨b, off, A', c, e, h1, h2, h3, h4⟩ := h.at_ i hi
    exact ⟨b, off, A', c, e, Nat.lt_of_lt_of_le h1 hb.size, (hb.cell (p := ⟨b, off + i, none⟩) h1).trans h2, h3, h4.below hb⟩⟩
theorem Ints.nil (w : World) (A : Option Addr) : Ints w A [] := ⟨by simp, fun i h => absurd h (by simp)⟩
theorem Pairs.nil (w : World) (A : Option Addr) : Pairs w A [] := ⟨by simp, fun i h => absurd h (by simp)⟩
theorem Lists.nil (w : World) (A : Option Addr) : Lists w A [] := ⟨by simp, fun i h => absurd h (by simp)⟩

theorem below_then {B : Nat} {w w1 w2 : World} (h : Below B w w1) (hB : B ≤ w1.heap.size) (k : Below w1.heap.size w1 w2) : Below B w w2 :=
  h.trans (k.mono hB)
theorem below_trans {w w1 w2 : World} (h : Below w.heap.size w w1) (k : Below w1.heap.size w1 w2) : Below w.heap.size w w2 :=
  h.trans (k.mono h.size)
theorem below_drewN' {B : Nat} {a w : World} (h : Below B a w) (n : Nat) : Below B a (w.drewN n) := ⟨h.os, h.tape, h.output, h.size, h.block⟩
theorem below_alloc' {w W : World} (h : Below w.heap.size w W) (o : Obj) : Below w.heap.size w (W.alloc o) := h.alloc h.size o
theorem below_cells {B : Nat} {W w1 : World} (hb : Below B W w1) : (∀ b o, b < B → w1.cell? ⟨b, o, none⟩ = W.cell? ⟨b, o, none⟩) ∧ (∀ b o, b < B → w1.frozen? ⟨b, o, none⟩ = W.frozen? ⟨b, o, none⟩) :=
  ⟨fun b o h => hb.cell (p := ⟨b, o, none⟩) h, fun b o h => hb.frozen (p := ⟨b, o, none⟩) h⟩

theorem below_of_grown {W w1 : World} {v : Value} (hg : W.grownBy w1 v.ownBlock) (h : v.ownBlock = none) : Below W.heap.size W w1 :=
  ⟨hg.os, hg.tape, hg.output, hg.size, fun k hk => hg.block k hk (by rw [h]; simp)⟩

/-- a row known whole reads as the list of its numbers -/
theorem Ints.ofRow {w : World} {b n : Nat} {t : TypeId} {f : Nat → Int} (h : w.rowIs b t n (fun i => .int .i64 (f i))) (hn : n ≤ 9223372036854775807) : Ints w (some ⟨b, 0, none⟩) ((List.range n).map f) :=
  ⟨by simpa using hn, fun i hi => by
    have hi' : i < n := by simpa using hi
    refine ⟨b, 0, rfl, h.lt, ?_⟩
    have := h.cell hi'
    simpa [List.getD_eq_getElem?_getD, List.getElem?_map, List.getElem?_range hi'] using this⟩

/-- the number of the variable of an error's code -/
def glob : Nat → Nat
  | 1 => 2 | 2 => 0 | 3 => 1 | 4 => 3 | 5 => 4 | 6 => 5 | 7 => 6 | _ => 7
/-- the error value whose text lies at a -/
def errAt (a : Addr) : Value := .iface 108 (.pointer (some a))
/-- the error of a code -/
def errC (a : Nat → Addr) (c : Int) : Value := if c = 0 then .nilIface else errAt (a c.toNat)
theorem errC_zero (a : Nat → Addr) : errC a 0 = .nilIface := rfl
theorem errC_two (a : Nat → Addr) : errC a 2 = .iface 108 (.pointer (some (a 2))) := rfl
theorem errC_three (a : Nat → Addr) : errC a 3 = .iface 108 (.pointer (some (a 3))) := rfl
/-- the sentinels of the codes S hold errors at the places a -/
structure Env (S : List Nat) (w : World) (a : Nat → Addr) : Prop where
  cell : ∀ c, c ∈ S → w.cell? ⟨glob c, 0, none⟩ = some (.iface 108 (.pointer (some (a c))))
theorem Env.below {S : List Nat} {w w' : World} {a : Nat → Addr} (h : Env S w a) (hb : Below w.heap.size w w') : Env S w' a :=
  ⟨fun c hc => (hb.cell (p := ⟨glob c, 0, none⟩) (World.block_lt_of_cell? w _ (h.cell c hc))).trans (h.cell c hc)⟩
theorem Env.lt {S : List Nat} {w : World} {a : Nat → Addr} (h : Env S w a) {c : Nat} (hc : c ∈ S) : glob c < w.heap.size := World.block_lt_of_cell? w _ (h.cell c hc)
theorem Env.sub {S S' : List Nat} {w : World} {a : Nat → Addr} (h : Env S w a) (hs : ∀ c, c ∈ S' → c ∈ S) : Env S' w a := ⟨fun c hc => h.cell c (hs c hc)⟩
/-- a slice that reads as l, and no error -/
def RetIntsErr (l : List Int) (w : World) (e : Ending) (w' : World) : Prop :=
  ∃ A c, e = .returned (.tuple #[.slice A l.length c, .nilIface]) ∧ Ints w' A l ∧ l.length ≤ c ∧ Below w.heap.size w w'
/-- a slice that reads as l -/
def RetInts (l : List Int) (w : World) (e : Ending) (w' : World) : Prop :=
  ∃ A c, e = .returned (.slice A l.length c) ∧ Ints w' A l ∧ l.length ≤ c ∧ Below w.heap.size w w'
theorem ret_int {k : IntKind} {a b : Int} (h : a = b) : Ending.returned (.int k a) = .returned (.int k b) := by rw [h]
theorem ret_bool {a b : Bool} (h : a = b) : Ending.returned (.bool a) = .returned (.bool b) := by rw [h]
end Go.Proofs.YtehheklbibocjaaDoor

/- A slice that reads as a list of cells, nil let in; append onto a row of the call's own, the source nil, empty or not (lemmas that the kit's page extra-words offers for copying, laid into this seat's namespace; the last section is ours). No condition. -/
namespace Go.Proofs.YtehheklbibocjaaDoor
open Go.RowKit Go.Deep

theorem block_of_add (a : Addr) (n : Nat) : (a.add n).block = a.block := by unfold Addr.add; split <;> rfl
theorem add_of_add (a : Addr) (i j : Nat) : (a.add i).add j = a.add (i + j) := by
  unfold Addr.add
  by_cases hi : i = 0 <;> by_cases hj : j = 0 <;> simp [hi, hj, Nat.add_assoc]

def Reads (w : World) (B size : Nat) (A : Option Addr) (n : Nat) (xs : List Value) : Prop :=
  xs.length = n * size ∧ (0 < n → ∃ ad, A = some ad ∧ ad.block < B ∧ ∀ j u, xs[j]? = some u → w.cell? (ad.add j) = some u)

section
variable {w w' : World} {B B' size n : Nat} {A : Option Addr} {xs : List Value}
theorem Reads.none_ : Reads w B size A 0 [] := ⟨by simp, fun h => absurd h (by omega)⟩
theorem Reads.at_ {k : Nat} (h : Reads w B 1 A n xs) (hk : k < n) : ∃ ad u, A = some ad ∧ ad.block < B ∧ xs[k]? = some u ∧ w.cell? (ad.add k) = some u := by
  obtain ⟨ad, e, hb, hc⟩ := h.2 (by omega)
  have hl : k < xs.length := by have := h.1; omega
  exact ⟨ad, xs[k], e, hb, List.getElem?_eq_getElem hl, hc k _ (List.getElem?_eq_getElem hl)⟩
theorem Reads.keep (h : Reads w B size A n xs) (hk : ∀ p : Addr, p.block < B → w'.cell? p = w.cell? p) : Reads w' B size A n xs :=
  ⟨h.1, fun hn => by
    obtain ⟨ad, e, hb, hc⟩ := h.2 hn
    exact ⟨ad, e, hb, fun j u hu => (hk _ (by rw [block_of_add]; exact hb)).trans (hc j u hu)⟩⟩
theorem Reads.more (h : Reads w B size A n xs) (hB : B ≤ B') : Reads w B' size A n xs :=
  ⟨h.1, fun hn => by
    obtain ⟨ad, e, hb, hc⟩ := h.2 hn
    exact ⟨ad, e, by omega, hc⟩⟩
theorem Reads.below (h : Reads w B size A n xs) (hb : Below B w w') : Reads w' B size A n xs := h.keep fun _ hp => hb.cell hp
theorem Reads.drew (h : Reads w B size A n xs) : Reads w.drew B size A n xs := h
theorem Reads.drewN (h : Reads w B size A n xs) (k : Nat) : Reads (w.drewN k) B size A n xs := h
theorem Reads.alloc (h : Reads w B size A n xs) (hB : B ≤ w.heap.size) (o : Obj) : Reads (w.alloc o) B size A n xs := h.keep fun p hp => World.cell?_alloc_lt w o p (by omega)
theorem Reads.setCell (h : Reads w B size A n xs) {p : Addr} (hB : B ≤ p.block) (u : Value) : Reads (w.setCell p u) B size A n xs :=
  h.keep fun q hq => World.cell?_setCell_other w p q u (fun e => by subst e; omega)
theorem Reads.grown (h : Reads w B size A n xs) {row : Option Nat} (hg : w.grownBy w' row) (hB : B ≤ w.heap.size) (hr : ∀ g, row = some g → B ≤ g) : Reads w' B size A n xs :=
  h.keep fun p hp => World.cell?_of_block (hg.block p.block (by omega) (fun e => by have := hr _ e.symm; omega))
theorem Reads.cut (h : Reads w B size A n xs) {k cap : Nat} (hk : k ≤ n) (hc : n ≤ cap) :
    Reads w B size (if cap = k then A else A.map (·.add (k * size))) (n - k) (xs.drop (k * size)) := by
  refine ⟨by rw [List.length_drop, h.1, Nat.sub_mul], fun hn => ?_⟩
  obtain ⟨ad, rfl, hb, hcell⟩ := h.2 (by omega)
  rw [if_neg (by omega)]
  refine ⟨ad.add (k * size), rfl, by rw [block_of_add]; exact hb, fun j u hu => ?_⟩
  rw [add_of_add]
  exact hcell _ u (by rw [← hu, List.getElem?_drop])
theorem Reads.of_own {base : Nat} {e : TypeId} {c : Nat} (h : w.ownsRow base e size (.slice A n c) n xs) : Reads w w.heap.size size A n xs := by
  refine ⟨h.1, fun hn => ?_⟩
  obtain ⟨g, cap, hv, _, hlt⟩ := h.form hn
  have hA : A = some ⟨g, 0, none⟩ := by injection hv
  subst hA
  exact ⟨_, rfl, hlt, h.cells (g := g) rfl⟩
end
section
variable {P : Program} (w : World)

theorem run_append_of_nil (base : Nat) (t ty e : TypeId) (i : TypeInfo) (size : Nat) (ht : P.underlying t = some (.slice e)) (hi : P.info? e = some i)
    (v : Value) (n : Nat) (xs : List Value) (hown : w.ownsRow base e size v n xs) (c : Nat) : (Builtin.append_ #[t, t] ty #[v, .slice none 0 c]).run P w = .ok v w := by
  rcases hown.2 with ⟨rfl, rfl⟩ | ⟨g, cap, cur, rfl, _, _, hnc, _⟩
  · simp [Builtin.append_, run_underlying ht, sizeOf, typeInfo, hi, Builtin.lenOf, Builtin.firstCells]
  · simp [Builtin.append_, run_underlying ht, sizeOf, typeInfo, hi, Builtin.lenOf, Builtin.firstCells, hnc, storeCells]

theorem run_append_any (base : Nat) (t ty e : TypeId) (i : TypeInfo) (z : Value) (size bytes : Nat) (ht : P.underlying t = some (.slice e)) (hi : P.info? e = some i) (hz : i.zero = some z)
    (hsize : i.size = size) (hby : i.bytes = bytes) (hzs : z.cells.size = size) (hsz : 0 < size)
    (v : Value) (n : Nat) (xs : List Value) (hown : w.ownsRow base e size v n xs)
    (B : Nat) (A : Option Addr) (m c : Nat) (news : List Value) (hr : Reads w B size A m news) (h1 : ∀ u ∈ news, u.oneCell' = true)
    (h63 : n + m ≤ maxLen) (hbytes : (n + m) * bytes ≤ 140737488355328) (hbase : base ≤ w.heap.size) :
    ∃ v' w', (Builtin.append_ #[t, t] ty #[v, .slice A m c]).run P w = .ok v' w' ∧ w'.ownsRow base e size v' (n + m) (xs ++ news) ∧ w.grownBy w' v.ownBlock ∧
      (v'.ownBlock = v.ownBlock ∨ v'.ownBlock = some w.heap.size) := by
  rcases A with _ | ad
  · have hm : m = 0 := by
      rcases Nat.eq_zero_or_pos m with h0 | h0
      · exact h0
      · obtain ⟨ad, h, _⟩ := hr.2 h0
        cases h
    subst hm
    have hn : news = [] := List.eq_nil_of_length_eq_zero (by simpa using hr.1)
    subst hn
    exact ⟨v, w, run_append_of_nil w base t ty e i size ht hi v n xs hown c, by simpa using hown, World.grownBy.refl w _, .inl rfl⟩
  · have hcells : ∀ j u, news[j]? = some u → w.cell? (ad.add j) = some u := by
      intro j u hu
      rcases Nat.eq_zero_or_pos m with h0 | h0
      · subst h0
        have hn : news = [] := List.eq_nil_of_length_eq_zero (by simpa using hr.1)
        subst hn
        simp at hu
      · obtain ⟨ad', h, _, hc⟩ := hr.2 h0
        injection h with h
        subst h
        exact hc j u hu
    obtain ⟨v', w', hrun, h2, h3, _, h5⟩ := run_append_own_at (P := P) w base t ty e i z size bytes ht hi hz hsize hby hzs hsz v n xs hown ad m c news hr.1 hcells h1 h63 hbytes hbase
    exact ⟨v', w', hrun, h2, h3, h5⟩

theorem wp_append_any {o : Oper} {a : Act} {K : Act → World → Prop} {Q : Exit → Act → World → Prop} (s x : Operand) (t : TypeId)
    (ho : o.op = .call { callee := .builtin .append, args := #[s, x], argTypes := #[t, t] })
    (base : Nat) (e : TypeId) (i : TypeInfo) (z : Value) (size bytes : Nat) (ht : P.underlying t = some (.slice e)) (hi : P.info? e = some i) (hz : i.zero = some z)
    (hsize : i.size = size) (hby : i.bytes = bytes) (hzs : z.cells.size = size) (hsz : 0 < size)
    (v : Value) (n : Nat) (xs : List Value) (hs : a.eval s = v) (hown : w.ownsRow base e size v n xs)
    (B : Nat) (A : Option Addr) (m c : Nat) (news : List Value) (hx : a.eval x = .slice A m c) (hr : Reads w B size A m news) (h1 : ∀ u ∈ news, u.oneCell' = true)
    (h63 : n + m ≤ maxLen) (hbytes : (n + m) * bytes ≤ 140737488355328) (hbase : base ≤ w.heap.size)
    (h : ∀ v' w', w'.ownsRow base e size v' (n + m) (xs ++ news) → w.grownBy w' v.ownBlock → (v'.ownBlock = v.ownBlock ∨ v'.ownBlock = some w.heap.size) → K (a.put o.dst v') w') : o.wp P a w K Q := by
  obtain ⟨v', w', hrun, h2, h3, h4⟩ := run_append_any (P := P) w base t o.type e i z size bytes ht hi hz hsize hby hzs hsz v n xs hown B A m c news hr h1 h63 hbytes hbase
  unfold Oper.wp execOp
  simp only [ho, resolve, invoke, builtin, Sem.run_bind, Sem.run_pure, Result.andThen_ok, List.map_toArray, List.map_cons, List.map_nil, hs, hx, hrun]
  exact h v' w' h2 h3 h4

theorem wpList_append_any {ops : Array Oper} {rest : List Oper} {o : Oper} {a : Act} {Q : Exit → Act → World → Prop} (hgd : o.guard = none) (s x : Operand) (t : TypeId)
    (ho : o.op = .call { callee := .builtin .append, args := #[s, x], argTypes := #[t, t] })
    (base : Nat) (e : TypeId) (i : TypeInfo) (z : Value) (size bytes : Nat) (ht : P.underlying t = some (.slice e)) (hi : P.info? e = some i) (hz : i.zero = some z)
    (hsize : i.size = size) (hby : i.bytes = bytes) (hzs : z.cells.size = size) (hsz : 0 < size)
    (v : Value) (n : Nat) (xs : List Value) (hs : a.eval s = v) (hown : w.ownsRow base e size v n xs)
    (B : Nat) (A : Option Addr) (m c : Nat) (news : List Value) (hx : a.eval x = .slice A m c) (hr : Reads w B size A m news) (h1 : ∀ u ∈ news, u.oneCell' = true)
    (h63 : n + m ≤ maxLen) (hbytes : (n + m) * bytes ≤ 140737488355328) (hbase : base ≤ w.heap.size)
    (h : ∀ v' w', w'.ownsRow base e size v' (n + m) (xs ++ news) → w.grownBy w' v.ownBlock → (v'.ownBlock = v.ownBlock ∨ v'.ownBlock = some w.heap.size) → wpList P ops Q rest (a.put o.dst v') w') : wpList P ops Q (o :: rest) a w :=
  wpList_plain hgd fun _ hK => wp_append_any w s x t ho base e i z size bytes ht hi hz hsize hby hzs hsz v n xs hs hown B A m c news hx hr h1 h63 hbytes hbase fun v' w' h2 h3 h4 => hK _ _ (h v' w' h2 h3 h4)

theorem step_append_any {ops : Array Oper} {o : Oper} {a : Act} {K : Act → World → Prop} {Q : Exit → Act → World → Prop} {E : Prop} (hgd : o.guard = none) (s x : Operand) (t : TypeId)
    (ho : o.op = .call { callee := .builtin .append, args := #[s, x], argTypes := #[t, t] })
    (base : Nat) (e : TypeId) (i : TypeInfo) (z : Value) (size bytes : Nat) (ht : P.underlying t = some (.slice e)) (hi : P.info? e = some i) (hz : i.zero = some z)
    (hsize : i.size = size) (hby : i.bytes = bytes) (hzs : z.cells.size = size) (hsz : 0 < size)
    (v : Value) (n : Nat) (xs : List Value) (hs : a.eval s = v) (hown : w.ownsRow base e size v n xs)
    (B : Nat) (A : Option Addr) (m c : Nat) (news : List Value) (hx : a.eval x = .slice A m c) (hr : Reads w B size A m news) (h1 : ∀ u ∈ news, u.oneCell' = true)
    (h63 : n + m ≤ maxLen) (hbytes : (n + m) * bytes ≤ 140737488355328) (hbase : base ≤ w.heap.size)
    (h : ∀ v' w', w'.ownsRow base e size v' (n + m) (xs ++ news) → w.grownBy w' v.ownBlock → (v'.ownBlock = v.ownBlock ∨ v'.ownBlock = some w.heap.size) → K (a.put o.dst v') w') :
    if Region.wanted o (yielded ops a.tmps) = true then Oper.wp P o a w K Q else E := by
  have hw : Region.wanted o (yielded ops a.tmps) = true := by simp [Region.wanted, hgd]
  rw [if_pos hw]
  exact wp_append_any w s x t ho base e i z size bytes ht hi hz hsize hby hzs hsz v n xs hs hown B A m c news hx hr h1 h63 hbytes hbase h
end

/-! ### our own: from our readings to Reads, and from a row of the call's own to our readings -/
def intCells (l : List Int) : List Value := l.map (Value.int .i64)
def pairCells (l : List (Int × Int)) : List Value := l.flatMap fun p => [Value.int .i64 p.1, Value.int .i64 p.2]
theorem intCells_length (l : List Int) : (intCells l).length = l.length := by simp [intCells]
theorem pairCells_length (l : List (Int × Int)) : (pairCells l).length = l.length * 2 := by
  induction l with
  | nil => rfl
  | cons p l ih => simp only [pairCells, List.flatMap_cons, List.length_append, List.length_cons, List.length_nil] at ih ⊢; omega
theorem intCells_append (l m : List Int) : intCells (l ++ m) = intCells l ++ intCells m := by simp [intCells]
theorem pairCells_append (l m : List (Int × Int)) : pairCells (l ++ m) = pairCells l ++ pairCells m := by simp [pairCells]
theorem intCells_one (l : List Int) : ∀ u ∈ intCells l, u.oneCell' = true := by
  intro u hu
  simp only [intCells, List.mem_map] at hu
  obtain ⟨x, _, rfl⟩ := hu
  rfl
theorem pairCells_one (l : List (Int × Int)) : ∀ u ∈ pairCells l, u.oneCell' = true := by
  intro u hu
  simp only [pairCells, List.mem_flatMap] at hu
  obtain ⟨x, _, h⟩ := hu
  simp at h
  rcases h with rfl | rfl <;> rfl
theorem pairCells_at (l : List (Int × Int)) : ∀ i, i < l.length → (pairCells l)[i * 2]? = some (.int .i64 (l.getD i (0, 0)).1) ∧ (pairCells l)[i * 2 + 1]? = some (.int .i64 (l.getD i (0, 0)).2) := by
  induction l with
  | nil => intro i h; simp at h
  | cons p l ih =>
    intro i h
    cases i with
    | zero => exact ⟨rfl, rfl⟩
    | succ i =>
      have hi : i < l.length := by simpa using h
      have := ih i hi
      have e : pairCells (p :: l) = Value.int .i64 p.1 :: Value.int .i64 p.2 :: pairCells l := by simp [pairCells]
      rw [e, show (i + 1) * 2 = i * 2 + 1 + 1 from by omega, List.getElem?_cons_succ, List.getElem?_cons_succ, List.getElem?_cons_succ, List.getElem?_cons_succ, List.getD_cons_succ]
      exact this
theorem intCells_at (l : List Int) : ∀ i, i < l.length → (intCells l)[i]? = some (.int .i64 (l.getD i 0)) := by
  intro i h
  simp [intCells, List.getD_eq_getElem?_getD, h]
theorem addr_add (b o n : Nat) : (⟨b, o, none⟩ : Addr).add n = ⟨b, o + n, none⟩ := by
  unfold Addr.add
  by_cases h : n = 0
  · subst h; rfl
  · simp [h]
theorem Ints.reads {w : World} {A : Option Addr} {l : List Int} (h : Ints w A l) : Reads w w.heap.size 1 A l.length (intCells l) := by
  refine ⟨by rw [intCells_length]; omega, fun hn => ?_⟩
  obtain ⟨b, off, e, hb, _⟩ := h.at_ 0 hn
  refine ⟨⟨b, off, none⟩, e, hb, fun j u hu => ?_⟩
  have hj : j < l.length := by
    rcases Nat.lt_or_ge j l.length with h1 | h1
    · exact h1
    · rw [List.getElem?_eq_none (by rw [intCells_length]; exact h1)] at hu; cases hu
  obtain ⟨b', off', e', _, hc⟩ := h.at_ j hj
  rw [e] at e'
  injection e' with e'
  injection e' with e1 e2 e3
  subst e1; subst e2
  rw [intCells_at l j hj] at hu
  rw [addr_add]
  exact hc.trans hu
theorem Pairs.reads {w : World} {A : Option Addr} {l : List (Int × Int)} (h : Pairs w A l) : Reads w w.heap.size 2 A l.length (pairCells l) := by
  refine ⟨by rw [pairCells_length], fun hn => ?_⟩
  obtain ⟨b, off, e, hb, _⟩ := h.at_ 0 hn
  refine ⟨⟨b, off, none⟩, e, hb, fun j u hu => ?_⟩
  have hj : j < l.length * 2 := by
    rcases Nat.lt_or_ge j (l.length * 2) with h1 | h1
    · exact h1
    · rw [List.getElem?_eq_none (by rw [pairCells_length]; exact h1)] at hu; cases hu
  obtain ⟨b', off', e', _, hc1, hc2⟩ := h.at_ (j / 2) (by omega)
  rw [e] at e'
  injection e' with e'
  injection e' with e1 e2 e3
  subst e1; subst e2
  have hp := pairCells_at l (j / 2) (by omega)
  rw [addr_add]
  rcases Nat.mod_two_eq_zero_or_one j with h2 | h2
  · rw [show j = j / 2 * 2 from by omega] at hu ⊢
    rw [hp.1] at hu
    exact hc1.trans hu
  · rw [show j = j / 2 * 2 + 1 from by omega] at hu ⊢
    rw [hp.2] at hu
    exact hc2.trans hu
theorem own_shape {w : World} {base n : Nat} {e : TypeId} {size : Nat} {v : Value} {xs : List Value} (h : w.ownsRow base e size v n xs) : ∃ A c, v = .slice A n c ∧ n ≤ c ∧ n ≤ 9223372036854775807 := by
  rcases h.2 with ⟨rfl, rfl⟩ | ⟨g, cap, cur, rfl, _, _, h1, h2, _⟩
  · exact ⟨none, 0, rfl, Nat.le_refl _, by omega⟩
  · exact ⟨_, cap, rfl, h1, by simp only [maxLen] at h2; omega⟩
theorem Ints.own {w : World} {base c : Nat} {e : TypeId} {A : Option Addr} {l : List Int} (h : w.ownsRow base e 1 (.slice A l.length c) l.length (intCells l)) : Ints w A l := by
  obtain ⟨A', c', hv, _, hm⟩ := own_shape h
  refine ⟨hm, fun i hi => ?_⟩
  rcases h.2 with ⟨hn, h0⟩ | ⟨g, cap, cur, hv, hb, hh, h1, h2, _⟩
  · omega
  · injection hv with hA _ _
    subst hA
    refine ⟨g, 0, rfl, (Array.getElem?_eq_some_iff.1 hh).1, ?_⟩
    have := h.cells (g := g) rfl i _ (intCells_at l i hi)
    rw [addr_add] at this
    exact this
theorem Pairs.own {w : World} {base c : Nat} {e : TypeId} {A : Option Addr} {l : List (Int × Int)} (h : w.ownsRow base e 2 (.slice A l.length c) l.length (pairCells l)) : Pairs w A l := by
  obtain ⟨A', c', hv, _, hm⟩ := own_shape h
  refine ⟨hm, fun i hi => ?_⟩
  rcases h.2 with ⟨hn, h0⟩ | ⟨g, cap, cur, hv, hb, hh, h1, h2, _⟩
  · omega
  · injection hv with hA _ _
    subst hA
    refine ⟨g, 0, rfl, (Array.getElem?_eq_some_iff.1 hh).1, ?_, ?_⟩
    · have := h.cells (g := g) rfl (i * 2) _ (pairCells_at l i hi).1
      rw [addr_add] at this
      exact this
    · have := h.cells (g := g) rfl (i * 2 + 1) _ (pairCells_at l i hi).2
      rw [addr_add] at this
      rw [show 0 + i * 2 + 1 = 0 + (i * 2 + 1) from by omega]
      exact this
theorem nil_own (w : World) (base : Nat) (e : TypeId) (size : Nat) : w.ownsRow base e size (.slice none 0 0) 0 [] := ⟨by simp, .inl ⟨rfl, rfl⟩⟩

/-! ### append at the types of this seat -/
theorem int_info : (Tryd.prog.info? 3).map (fun i => (i.zero, i.size, i.bytes)) = some (some (.int .i64 0), 1, 8) := by kernel_rfl
/-- append of a slice of whole numbers onto a row of the call's own -/
theorem wp_app_ints (w : World) {ops : Array Oper} {rest : List Oper} {o : Oper} {a : Act} {Q : Exit → Act → World → Prop} (hgd : o.guard = none) (s x : Operand)
    (ho : o.op = .call { callee := .builtin .append, args := #[s, x], argTypes := #[33, 33] })
    (base : Nat) (v : Value) (l0 : List Int) (hs : a.eval s = v) (hown : w.ownsRow base 3 1 v l0.length (intCells l0))
    (A : Option Addr) (m c : Nat) (l : List Int) (hx : a.eval x = .slice A m c) (hm : m = l.length) (hr : Ints w A l)
    (hbytes : (l0.length + m) * 8 ≤ 140737488355328) (hbase : base ≤ w.heap.size)
    (h : ∀ A' c' w', (l0 ++ l).length ≤ c' → w'.ownsRow base 3 1 (.slice A' (l0 ++ l).length c') (l0 ++ l).length (intCells (l0 ++ l)) → w.grownBy w' v.ownBlock → ((Value.slice A' (l0 ++ l).length c').ownBlock = v.ownBlock ∨ (Value.slice A' (l0 ++ l).length c').ownBlock = some w.heap.size) →
      wpList Tryd.prog ops Q rest (a.put o.dst (.slice A' (l0 ++ l).length c')) w') : wpList Tryd.prog ops Q (o :: rest) a w := by
  obtain ⟨i0, hi0, hz0, hz1, hz2⟩ := info_parts int_info
  subst hm
  refine wpList_append_any w hgd s x _ ho base 3 i0 _ 1 8 Tryd.underlying33 hi0 hz0 hz1 hz2 rfl (by omega) v l0.length (intCells l0) hs hown w.heap.size A l.length c (intCells l) hx hr.reads (intCells_one l) (by simp only [maxLen]; omega) hbytes hbase ?_
  intro v' w' h1 h2 h3
  rw [← intCells_append, ← List.length_append] at h1
  obtain ⟨A', c', rfl, hc, _⟩ := own_shape h1
  exact h A' c' w' hc h1 h2 h3
theorem pair_info : (Tryd.prog.info? 51).map (fun i => (i.zero, i.size, i.bytes)) = some (some (.agg #[.int .i64 0, .int .i64 0]), 2, 16) := by kernel_rfl
/-- append of a slice of pairs onto a row of the call's own -/
theorem wp_app_pairs (w : World) {ops : Array Oper} {rest : List Oper} {o : Oper} {a : Act} {Q : Exit → Act → World → Prop} (hgd : o.guard = none) (s x : Operand)
    (ho : o.op = .call { callee := .builtin .append, args := #[s, x], argTypes := #[22, 22] })
    (base : Nat) (v : Value) (l0 : List (Int × Int)) (hs : a.eval s = v) (hown : w.ownsRow base 51 2 v l0.length (pairCells l0))
    (A : Option Addr) (m c : Nat) (l : List (Int × Int)) (hx : a.eval x = .slice A m c) (hm : m = l.length) (hr : Pairs w A l)
    (hbytes : (l0.length + m) * 16 ≤ 140737488355328) (hbase : base ≤ w.heap.size)
    (h : ∀ A' c' w', (l0 ++ l).length ≤ c' → w'.ownsRow base 51 2 (.slice A' (l0 ++ l).length c') (l0 ++ l).length (pairCells (l0 ++ l)) → w.grownBy w' v.ownBlock → ((Value.slice A' (l0 ++ l).length c').ownBlock = v.ownBlock ∨ (Value.slice A' (l0 ++ l).length c').ownBlock = some w.heap.size) →
      wpList Tryd.prog ops Q rest (a.put o.dst (.slice A' (l0 ++ l).length c')) w') : wpList Tryd.prog ops Q (o :: rest) a w := by
  obtain ⟨i0, hi0, hz0, hz1, hz2⟩ := info_parts pair_info
  subst hm
  refine wpList_append_any w hgd s x _ ho base 51 i0 _ 2 16 Tryd.underlying22 hi0 hz0 hz1 hz2 rfl (by omega) v l0.length (pairCells l0) hs hown w.heap.size A l.length c (pairCells l) hx hr.reads (pairCells_one l) (by simp only [maxLen]; omega) hbytes hbase ?_
  intro v' w' h1 h2 h3
  rw [← pairCells_append, ← List.length_append] at h1
  obtain ⟨A', c', rfl, hc, _⟩ := own_shape h1
  exact h A' c' w' hc h1 h2 h3

/-! ### make([]int, n) -/
theorem wp_make_ints (w : World) {ops : Array Oper} {rest : List Oper} {o : Oper} {a : Act} {Q : Exit → Act → World → Prop}
    (hg : o.guard = none) (l c : Operand) (hop : o.op = Op.makeSlice 33 l c) (kl kc : IntKind) (n : Nat) (hl : a.eval l = .int kl (n : Int)) (hc : a.eval c = .int kc (n : Int)) (hn : n ≤ 35184372088832)
    (hK : ∀ w', w'.rowIs w.heap.size 3 n (fun _ => .int .i64 0) → Below w.heap.size w w' → w.heap.size < w'.heap.size → wpList Tryd.prog ops Q rest (a.put o.dst (.slice (some ⟨w.heap.size, 0, none⟩) n n)) w') :
    wpList Tryd.prog ops Q (o :: rest) a w := by
  obtain ⟨i0, hi0, hz0, hz1, hz2⟩ := info_parts int_info
  refine wpList_make_row w hg l c _ hop 3 i0 _ Tryd.underlying33 hi0 hz0 hz1 rfl kl kc n hl hc (by rw [hz2]; omega) (by omega) ?_
  exact hK _ (World.rowIs_made w _ n _) ((Below.refl _ _).alloc (Nat.le_refl _) _) (by simp)
end Go.Proofs.YtehheklbibocjaaDoor

/- Between our words for memory and those of the printed texts: a slice that reads as a list, a table. No condition. -/
namespace Go.Proofs.YtehheklbibocjaaDoor
open Go.RowKit Go.Deep Go.Proofs.YtehheklbibocjaaDoorW.PrintWords

theorem Ints.toC {w : World} {A : Option Addr} {l : List Int} (h : Ints w A l) : Kd.C (Kd.int .i64) w A l.length l := by
  refine ⟨rfl, h.len, fun hn => ?_⟩
  obtain ⟨b, off, rfl, _, _⟩ := h.at_ 0 hn
  refine ⟨_, rfl, fun j p hj => ⟨[.int .i64 p], rfl, rfl, fun i u hu => ?_⟩⟩
  have hjl : j < l.length := by
    rcases Nat.lt_or_ge j l.length with h1 | h1
    · exact h1
    · rw [List.getElem?_eq_none h1] at hj; cases hj
  obtain ⟨b', off', e, _, hc⟩ := h.at_ j hjl
  injection e with e
  injection e with e1 e2 _
  subst e1 e2
  have hi : i = 0 := by
    rcases Nat.eq_zero_or_pos i with h1 | h1
    · exact h1
    · rw [List.getElem?_eq_none (by simp; omega)] at hu; cases hu
  subst hi
  rw [addr_add]
  have hp : l.getD j 0 = p := by rw [List.getD_eq_getElem?_getD, hj]; rfl
  rw [hp] at hc
  simp at hu
  subst hu
  show w.cell? ⟨b, off + (j * 1 + 0), none⟩ = _
  rw [Nat.mul_one, Nat.add_zero]
  exact hc
theorem Ints.ofC {w : World} {g off : Nat} {l : List Int} (h : Kd.C (Kd.int .i64) w (some ⟨g, off, none⟩) l.length l) : Ints w (some ⟨g, off, none⟩) l :=
  ⟨h.2.1, fun i hi => by
    obtain ⟨ad, c, e, _, hK, hc⟩ := Kd.C_get h 0 i (by omega) (by omega)
    obtain rfl := Option.some.inj e
    have hK' : c = [.int .i64 (l.getD i 0)] := hK
    subst hK'
    have h1 := hc 0 _ rfl
    rw [addr_add] at h1
    have h2 : w.cell? ⟨g, off + i, none⟩ = some (.int .i64 (l.getD i 0)) := by
      have e1 : off + ((i : Int).toNat * (Kd.int IntKind.i64).sz + 0) = off + i := by
        show off + ((i : Int).toNat * 1 + 0) = off + i
        omega
      rw [e1] at h1
      exact h1
    exact ⟨g, off, rfl, World.block_lt_of_cell? w _ h2, h2⟩⟩
theorem Ints.ofR {w : World} {e base : Nat} {ok : Nat → Prop} {v : Value} {l : List Int} (h : Kd.R (Kd.int .i64) e w base ok v l) : ∃ A c, v = .slice A l.length c ∧ Ints w A l ∧ l.length ≤ c := by
  obtain ⟨A, c, rfl, hc, hC⟩ := Kd.R_reads h
  refine ⟨A, c, rfl, ?_, hc⟩
  rcases Nat.eq_zero_or_pos l.length with h0 | h0
  · rw [List.eq_nil_of_length_eq_zero h0]; exact Ints.nil w A
  · obtain ⟨g, cap, e1, _⟩ := Kd.R_form h h0
    injection e1 with e1
    subst e1
    exact Ints.ofC hC
theorem Lists.toC {w : World} {A : Option Addr} {l : List (List Int)} (h : Lists w A l) : Kd.C (Kd.slice 3 (Kd.int .i64)) w A l.length l := by
  refine ⟨rfl, h.len, fun hn => ?_⟩
  obtain ⟨b, off, _, _, rfl, _⟩ := h.at_ 0 hn
  refine ⟨_, rfl, fun j p hj => ?_⟩
  have hjl : j < l.length := by
    rcases Nat.lt_or_ge j l.length with h1 | h1
    · exact h1
    · rw [List.getElem?_eq_none h1] at hj; cases hj
  obtain ⟨b', off', A', c, e, _, hc, hle, hI⟩ := h.at_ j hjl
  injection e with e
  injection e with e1 e2 _
  subst e1 e2
  have hp : l.getD j [] = p := by rw [List.getD_eq_getElem?_getD, hj]; rfl
  rw [hp] at hc hle hI
  refine ⟨[.slice A' p.length c], rfl, ⟨A', c, rfl, hle, hI.toC⟩, fun i u hu => ?_⟩
  have hi : i = 0 := by
    rcases Nat.eq_zero_or_pos i with h1 | h1
    · exact h1
    · rw [List.getElem?_eq_none (by simp; omega)] at hu; cases hu
  subst hi
  simp at hu
  subst hu
  rw [addr_add]
  show w.cell? ⟨b, off + (j * 1 + 0), none⟩ = _
  rw [Nat.mul_one, Nat.add_zero]
  exact hc
theorem Lists.ofR {w : World} {e base : Nat} {ok : Nat → Prop} {v : Value} {l : List (List Int)} (h : Kd.R (Kd.slice 3 (Kd.int .i64)) e w base ok v l) : ∃ A c, v = .slice A l.length c ∧ Lists w A l ∧ l.length ≤ c := by
  obtain ⟨A, c, rfl, hc, hC⟩ := Kd.R_reads h
  refine ⟨A, c, rfl, ?_, hc⟩
  rcases Nat.eq_zero_or_pos l.length with h0 | h0
  · rw [List.eq_nil_of_length_eq_zero h0]; exact Lists.nil w A
  · obtain ⟨g, cap, e1, _⟩ := Kd.R_form h h0
    injection e1 with e1
    subst e1
    refine ⟨hC.2.1, fun i hi => ?_⟩
    obtain ⟨_, inner, ho, hr⟩ := h
    have hp : l[i]? = some (l.getD i []) := by rw [List.getD_eq_getElem?_getD, List.getElem?_eq_getElem hi]; rfl
    obtain ⟨u, hu, hR⟩ := hr.2 i _ hp
    obtain ⟨A', c', rfl, hI, hle⟩ := Ints.ofR hR
    have hin : inner[i]? = some (.slice A' (l.getD i []).length c') := by
      have h1 : ((inner.drop (i * 1)).take 1)[0]? = some (.slice A' (l.getD i []).length c') := by
        have : ((inner.drop (i * 1)).take 1) = [.slice A' (l.getD i []).length c'] := hu
        rw [this]
        rfl
      rw [List.getElem?_take_of_lt (by omega), List.getElem?_drop, Nat.mul_one, Nat.add_zero] at h1
      exact h1
    have hcell : w.cell? ⟨g, 0 + i, none⟩ = some (.slice A' (l.getD i []).length c') := by
      have := ho.cells (g := g) rfl i _ hin
      rw [addr_add] at this
      exact this
    exact ⟨g, 0, A', c', rfl, World.block_lt_of_cell? w _ hcell, hcell, hle, hI⟩
theorem drawn_below {w w' : World} (h : Drawn0 w w') : Below w.heap.size w w' := by
  obtain ⟨n, rfl⟩ := h
  exact below_drewN' (Below.refl _ _) n
theorem rd_getD (l : List Int) (i : Nat) : rd l (i : Int) = l.getD i 0 := rfl
end Go.Proofs.YtehheklbibocjaaDoor

/- Plain words for systems: which pair is bad; the code of a system's error. No condition. -/
namespace Go.Proofs.YtehheklbibocjaaDoor

def badPair (n : Int) (p : Int × Int) : Bool := decide (p.1 < 0 ∨ p.2 < 0 ∨ n ≤ p.1 ∨ n ≤ p.2 ∨ p.1 = p.2)
def vcode (n : Int) (l : List (Int × Int)) : Int := if n < 0 ∨ 14 < n ∨ 30 < l.length then 2 else if l.any (badPair n) then 3 else 0

/-- all pairs ahead of place k are right -/
structure Good (n : Int) (l : List (Int × Int)) (k : Nat) : Prop where
  out : ∀ j, j < k → badPair n (l.getD j (0, 0)) = false
theorem Good.zero (n : Int) (l : List (Int × Int)) : Good n l 0 := ⟨fun j h => absurd h (by omega)⟩
theorem Good.succ {n : Int} {l : List (Int × Int)} {k : Nat} (h : Good n l k) (hk : badPair n (l.getD k (0, 0)) = false) : Good n l (k + 1) :=
  ⟨fun j hj => by
    by_cases e : j = k
    · rw [e]; exact hk
    · exact h.out j (by omega)⟩
theorem getD_eq {α : Type} (l : List α) (i : Nat) (d : α) (h : i < l.length) : l.getD i d = l[i] := by simp [List.getD_eq_getElem?_getD, h]
theorem vcode_big {n : Int} {l : List (Int × Int)} (h : n < 0 ∨ 14 < n ∨ 30 < l.length) : vcode n l = 2 := by unfold vcode; rw [if_pos h]
theorem vcode_bad {n : Int} {l : List (Int × Int)} {k : Nat} (h0 : 0 ≤ n) (h1 : n ≤ 14) (h2 : l.length ≤ 30) (hk : k < l.length) (hb : badPair n (l.getD k (0, 0)) = true) : vcode n l = 3 := by
  unfold vcode
  rw [if_neg (by omega), if_pos]
  rw [List.any_eq_true]
  rw [getD_eq l k _ hk] at hb
  exact ⟨l[k], List.getElem_mem hk, hb⟩
theorem vcode_good {n : Int} {l : List (Int × Int)} (h0 : 0 ≤ n) (h1 : n ≤ 14) (h2 : l.length ≤ 30) (h : Good n l l.length) : vcode n l = 0 := by
  unfold vcode
  rw [if_neg (by omega), if_neg]
  rw [List.any_eq_true]
  rintro ⟨p, hp, hb⟩
  obtain ⟨i, hi, rfl⟩ := List.getElem_of_mem hp
  have := h.out i hi
  rw [getD_eq l i _ hi] at this
  rw [this] at hb
  cases hb
theorem vcode_zero {n : Int} {l : List (Int × Int)} (h : vcode n l = 0) : 0 ≤ n ∧ n ≤ 14 ∧ l.length ≤ 30 ∧ Good n l l.length := by
  unfold vcode at h
  by_cases c : n < 0 ∨ 14 < n ∨ 30 < l.length
  · rw [if_pos c] at h; cases h
  · rw [if_neg c] at h
    by_cases d : l.any (badPair n) = true
    · rw [if_pos d] at h; cases h
    · refine ⟨by omega, by omega, by omega, ⟨fun j hj => ?_⟩⟩
      rw [getD_eq l j _ hj]
      cases e : badPair n l[j]
      · rfl
      · exact absurd (List.any_eq_true.2 ⟨l[j], List.getElem_mem hj, e⟩) d
theorem vcode_cases (n : Int) (l : List (Int × Int)) : vcode n l = 0 ∨ vcode n l = 2 ∨ vcode n l = 3 := by
  unfold vcode
  split
  · exact .inr (.inl rfl)
  · split
    · exact .inr (.inr rfl)
    · exact .inl rfl
theorem badPair_true {n : Int} {p : Int × Int} (h : p.1 < 0 ∨ p.2 < 0 ∨ n ≤ p.1 ∨ n ≤ p.2 ∨ p.1 = p.2) : badPair n p = true := decide_eq_true h
theorem badPair_false {n : Int} {p : Int × Int} (h0 : 0 ≤ p.1) (h1 : 0 ≤ p.2) (h2 : p.1 < n) (h3 : p.2 < n) (h4 : p.1 ≠ p.2) : badPair n p = false := decide_eq_false (by omega)
theorem badPair_of_false {n : Int} {p : Int × Int} (h : badPair n p = false) : 0 ≤ p.1 ∧ 0 ≤ p.2 ∧ p.1 < n ∧ p.2 < n ∧ p.1 ≠ p.2 := by
  have := of_decide_eq_false h
  omega
end Go.Proofs.YtehheklbibocjaaDoor

/- What the printed few, lists and ChannelError answer, plain. No condition. -/
namespace Go.Proofs.YtehheklbibocjaaDoor
open Go Go.RowKit Go.Proofs.YtehheklbibocjaaDoorW.PrintWords

theorem wrap_up (i : Nat) (h : i ≤ 2000000) : wrap64 ((i : Int) + 1) = ((i + 1 : Nat) : Int) := by
  unfold wrap64
  omega
theorem rdL_nat (l : List (List Int)) (i : Nat) : PZeroValid.rd_L1 l (i : Int) = l.getD i [] := rfl
theorem row_le (l : List (List Int)) (i : Nat) : (l.getD i []).length ≤ l.flatten.length := by
  rcases Nat.lt_or_ge i l.length with h | h
  · rw [getD_eq l i _ h]
    have : l[i] ∈ l := List.getElem_mem h
    exact List.Sublist.length_le (List.sublist_flatten_of_mem this)
  · rw [List.getD_eq_getElem?_getD, List.getElem?_eq_none h]
    simp
theorem takeL_at (l : List (List Int)) (i : Nat) (h : i < l.length) : l.take (i + 1) = l.take i ++ [l.getD i []] := by
  rw [List.take_succ_eq_append_getElem h, getD_eq l i [] h]
theorem flat_take (l : List (List Int)) (i : Nat) (h : i < l.length) : (l.take (i + 1)).flatten = (l.take i).flatten ++ l.getD i [] := by
  rw [takeL_at l i h, List.flatten_append]
  simp
theorem flat_take_le (l : List (List Int)) (i : Nat) : (l.take i).flatten.length ≤ l.flatten.length := by
  have : l.flatten = (l.take i).flatten ++ (l.drop i).flatten := by rw [← List.flatten_append, List.take_append_drop]
  rw [this, List.length_append]
  omega
theorem flat_l0 (l : List (List Int)) (hl : l.length ≤ 2000000) (hf : l.flatten.length ≤ 2000000) : ∀ (d i k : Nat), i + d = l.length → d < k → PZeroValid.demonref1_Flat.l0 k l (l.take i).flatten (i : Int) = some l.flatten := by
  intro d
  induction d with
  | zero =>
    intro i k hi hk
    obtain ⟨k, rfl⟩ : ∃ m, k = m + 1 := ⟨k - 1, by omega⟩
    obtain rfl : i = l.length := by omega
    simp only [PZeroValid.demonref1_Flat.l0]
    rw [if_neg (by omega), List.take_length]
  | succ d ih =>
    intro i k hi hk
    obtain ⟨k, rfl⟩ : ∃ m, k = m + 1 := ⟨k - 1, by omega⟩
    have hil : i < l.length := by omega
    have h1 := flat_take_le l i
    have h2 := row_le l i
    simp only [PZeroValid.demonref1_Flat.l0]
    rw [if_pos (by omega), if_pos (by omega), rdL_nat, if_pos (by omega), wrap_up i (by omega), ← flat_take l i hil]
    exact ih (i + 1) k (by omega) (by omega)
theorem flat_f (l : List (List Int)) (hl : l.length ≤ 2000000) (hf : l.flatten.length ≤ 2000000) (k : Nat) (hk : l.length < k) : PZeroValid.demonref1_Flat.f k l = some l.flatten :=
  flat_l0 l hl hf l.length 0 k (by omega) hk
/-- is a table of few rows and few numbers? -/
def fewOf (l : List (List Int)) : Bool := decide (l.length ≤ 40) && decide (l.flatten.length ≤ 400)
theorem few_f (l : List (List Int)) (hl : l.length ≤ 2000000) (hf : l.flatten.length ≤ 2000000) (k : Nat) (hk : l.length < k) : PZeroValid.demonlaw3_few.f k l = some (fewOf l) := by
  unfold PZeroValid.demonlaw3_few.f fewOf
  by_cases h : l.length ≤ 40
  · rw [if_pos (by omega), flat_f l hl hf k hk]
    have e : decide ((l.flatten.length : Int) ≤ 400) = decide (l.flatten.length ≤ 400) := by
      by_cases h2 : l.flatten.length ≤ 400
      · rw [decide_eq_true h2, decide_eq_true (by omega)]
      · rw [decide_eq_false h2, decide_eq_false (by omega)]
    show some (decide ((l.flatten.length : Int) ≤ 400)) = _
    rw [e, decide_eq_true h, Bool.true_and]
  · rw [if_neg (by omega), decide_eq_false h, Bool.false_and]
theorem ints_f (l : List Int) (hl : l.length ≤ 2000000) : PZeroValid.demonlaw3_ints.f l = some l := by
  unfold PZeroValid.demonlaw3_ints.f
  rw [if_pos (by simp; omega)]
  rfl
theorem lists_l0 (l : List (List Int)) (hl : l.length ≤ 2000000) (hf : l.flatten.length ≤ 2000000) : ∀ (d i k : Nat), i + d = l.length → d < k → PZeroValid.demonlaw3_lists.l0 k l (l.take i) (i : Int) = some l := by
  intro d
  induction d with
  | zero =>
    intro i k hi hk
    obtain ⟨k, rfl⟩ : ∃ m, k = m + 1 := ⟨k - 1, by omega⟩
    obtain rfl : i = l.length := by omega
    simp only [PZeroValid.demonlaw3_lists.l0]
    rw [if_neg (by omega), List.take_length]
  | succ d ih =>
    intro i k hi hk
    obtain ⟨k, rfl⟩ : ∃ m, k = m + 1 := ⟨k - 1, by omega⟩
    have hil : i < l.length := by omega
    have h2 := row_le l i
    have h3 : (l.take i).length ≤ i := by simp; omega
    simp only [PZeroValid.demonlaw3_lists.l0]
    rw [if_pos (by omega), if_pos (by omega), rdL_nat, ints_f _ (by omega), Option.bind_some, if_pos (by omega), wrap_up i (by omega), ← takeL_at l i hil]
    exact ih (i + 1) k (by omega) (by omega)
theorem lists_f (l : List (List Int)) (hl : l.length ≤ 2000000) (hf : l.flatten.length ≤ 2000000) (k : Nat) (hk : l.length < k) : PZeroValid.demonlaw3_lists.f k l = some l :=
  lists_l0 l hl hf l.length 0 k (by omega) hk

theorem rd_nat (l : List Int) (i : Nat) : rd l (i : Int) = l.getD i 0 := rfl
/-- has a row a number below 0; one above 0; one above 256? -/
def negL (r : List Int) : Bool := r.any fun x => decide (x < 0)
def posL (r : List Int) : Bool := r.any fun x => decide (0 < x)
def bigL (r : List Int) : Bool := r.any fun x => decide (256 < x)
def badR (c : Nat) (r : List Int) : Bool := decide (r.length ≠ c) || negL r || !posL r
def greatR (r : List Int) : Bool := bigL r || decide (256 < r.sum)
/-- the number of a channel's error -/
def chErr (m : List (List Int)) : Int :=
  if 16 < m.length ∨ m.any (fun r => decide (16 < r.length)) = true then 2
  else if m.length = 0 ∨ m.any (badR (m.getD 0 []).length) = true then 3
  else if m.any greatR = true then 2 else 0
def rowRes : Bool → Bool → Int → List Int → Option Bool
  | g, s, t, [] => if s = true then some (g || decide (256 < t)) else none
  | g, s, t, x :: r => if x < 0 then none else rowRes (g || decide (256 < x)) (s || decide (0 < x)) (if (g || decide (256 < x)) = true then t else t + x) r
theorem rowRes_is : ∀ (r : List Int) (g s : Bool) (t : Int), rowRes g s t r = if (negL r || !(s || posL r)) = true then none else some (g || bigL r || decide (256 < t + r.sum))
  | [], g, s, t => by
    show (if s = true then some (g || decide (256 < t)) else none) = _
    have e1 : negL [] = false := rfl
    have e2 : posL [] = false := rfl
    have e3 : bigL [] = false := rfl
    rw [e1, e2, e3, List.sum_nil, Int.add_zero]
    cases s <;> simp
  | x :: r, g, s, t => by
    show (if x < 0 then none else rowRes (g || decide (256 < x)) (s || decide (0 < x)) (if (g || decide (256 < x)) = true then t else t + x) r) = _
    have e1 : negL (x :: r) = (decide (x < 0) || negL r) := rfl
    have e2 : posL (x :: r) = (decide (0 < x) || posL r) := rfl
    have e3 : bigL (x :: r) = (decide (256 < x) || bigL r) := rfl
    rw [e1, e2, e3, List.sum_cons, rowRes_is r]
    by_cases h : x < 0
    · rw [if_pos h, decide_eq_true h]
      simp
    · rw [if_neg h, decide_eq_false h, Bool.false_or, Bool.or_assoc s, Bool.or_assoc g]
      congr 1
      cases g
      · by_cases h2 : 256 < x
        · rw [decide_eq_true h2]
          simp
        · rw [decide_eq_false h2]
          simp [Int.add_assoc]
      · simp
def chFrom (c : Nat) : Bool → List (List Int) → Int
  | g, [] => if g = true then 2 else 0
  | g, r :: rs => if r.length ≠ c then 3 else match rowRes g false 0 r with
    | none => 3
    | some g' => chFrom c g' rs
theorem chFrom_is (c : Nat) : ∀ (rs : List (List Int)) (g : Bool), chFrom c g rs = if rs.any (badR c) = true then 3 else if (g || rs.any greatR) = true then 2 else 0
  | [], g => by
    show (if g = true then 2 else 0) = _
    cases g <;> rfl
  | r :: rs, g => by
    have e1 : (r :: rs).any (badR c) = (badR c r || rs.any (badR c)) := rfl
    have e2 : (r :: rs).any greatR = (greatR r || rs.any greatR) := rfl
    rw [e1, e2]
    show (if r.length ≠ c then 3 else match rowRes g false 0 r with | none => 3 | some g' => chFrom c g' rs) = _
    by_cases h : r.length ≠ c
    · rw [if_pos h]
      have : badR c r = true := by unfold badR; rw [decide_eq_true h]; rfl
      rw [this]
      rfl
    · rw [if_neg h, rowRes_is]
      have hb : badR c r = (negL r || !(false || posL r)) := by unfold badR; rw [decide_eq_false h, Bool.false_or, Bool.false_or]
      rw [← hb]
      cases q : badR c r
      · rw [if_neg (by decide), Bool.false_or]
        show chFrom c (g || bigL r || decide (256 < 0 + r.sum)) rs = _
        rw [chFrom_is c rs, Int.zero_add]
        have : (g || bigL r || decide (256 < r.sum) || rs.any greatR) = (g || (greatR r || rs.any greatR)) := by unfold greatR; simp [Bool.or_assoc]
        rw [this]
      · rw [if_pos rfl]
        rfl
theorem drop_at (l : List Int) (j : Nat) (h : j < l.length) : l.drop j = l.getD j 0 :: l.drop (j + 1) := by
  rw [List.drop_eq_getElem_cons h, getD_eq l j _ h]
theorem dropL_at (l : List (List Int)) (j : Nat) (h : j < l.length) : l.drop j = l.getD j [] :: l.drop (j + 1) := by
  rw [List.drop_eq_getElem_cons h, getD_eq l j _ h]
theorem wrap_le (t : Int) (h0 : 0 ≤ t) (h1 : t ≤ 100000) : wrap64 t = t := by
  unfold wrap64
  omega
def goOn (m : List (List Int)) (i : Nat) (v : Int) : Option Bool → Prop
  | none => v = 3
  | some g => Ev (fun k => PZeroValid.demonref3_ChannelError.l1 k m g ((i + 1 : Nat) : Int)) v
theorem ch_l2 (m : List (List Int)) (i : Nat) (hi : i < m.length) (hm : m.length ≤ 2000000) (h16 : (m.getD i []).length ≤ 16) (v : Int) : ∀ (d j : Nat) (g s : Bool) (t : Int), j + d = (m.getD i []).length → 0 ≤ t → t ≤ 256 * j →
    goOn m i v (rowRes g s t ((m.getD i []).drop j)) → Ev (fun k => PZeroValid.demonref3_ChannelError.l2 k m g (i : Int) s t (j : Int)) v := by
  intro d
  induction d with
  | zero =>
    intro j g s t hj h0 h1 hg
    obtain rfl : j = (m.getD i []).length := by omega
    rw [List.drop_length] at hg
    have hr : rowRes g s t [] = if s = true then some (g || decide (256 < t)) else none := rfl
    rw [hr] at hg
    cases s with
    | false =>
      rw [if_neg (by decide)] at hg
      obtain rfl : v = 3 := hg
      refine Ev.step (f := fun _ => some 3) (fun k => ?_) (Ev.now 3)
      have q1 : (0 : Int) ≤ (i : Int) := by omega
      have q2 : (i : Int) < (m.length : Int) := by omega
      have q3 : ¬ ((m.getD i []).length : Int) < ((m.getD i []).length : Int) := by omega
      simp only [PZeroValid.demonref3_ChannelError.l2, rdL_nat, if_pos q1, if_pos q2, if_neg q3]
      simp
    | true =>
      rw [if_pos rfl] at hg
      refine Ev.step (fun k => ?_) hg
      have q1 : (0 : Int) ≤ (i : Int) := by omega
      have q2 : (i : Int) < (m.length : Int) := by omega
      have q3 : ¬ ((m.getD i []).length : Int) < ((m.getD i []).length : Int) := by omega
      simp only [PZeroValid.demonref3_ChannelError.l2, rdL_nat, if_pos q1, if_pos q2, if_neg q3, wrap_up i (by omega)]
      cases g <;> simp
  | succ d ih =>
    intro j g s t hj h0 h1 hg
    have hjl : j < (m.getD i []).length := by omega
    rw [drop_at _ j hjl] at hg
    have i0 := fun g s t h0 h1 hg => ih (j + 1) g s t (by omega) h0 h1 hg
    generalize hx : (m.getD i []).getD j 0 = x at hg
    have hr : rowRes g s t (x :: (m.getD i []).drop (j + 1)) = if x < 0 then none else rowRes (g || decide (256 < x)) (s || decide (0 < x)) (if (g || decide (256 < x)) = true then t else t + x) ((m.getD i []).drop (j + 1)) := rfl
    rw [hr] at hg
    by_cases hn : x < 0
    · rw [if_pos hn] at hg
      obtain rfl : v = 3 := hg
      refine Ev.step (f := fun _ => some 3) (fun k => ?_) (Ev.now 3)
      have q1 : (0 : Int) ≤ (i : Int) := by omega
      have q2 : (i : Int) < (m.length : Int) := by omega
      have q3 : (j : Int) < ((m.getD i []).length : Int) := by omega
      have q4 : (0 : Int) ≤ (j : Int) := by omega
      simp only [PZeroValid.demonref3_ChannelError.l2, rdL_nat, rd_nat, if_pos q1, if_pos q2, if_pos q3, if_pos q4, hx, if_pos hn]
    · rw [if_neg hn] at hg
      have hstep : ∀ k, PZeroValid.demonref3_ChannelError.l2 (k + 1) m g (i : Int) s t (j : Int) = PZeroValid.demonref3_ChannelError.l2 k m (g || decide (256 < x)) (i : Int) (s || decide (0 < x)) (if (g || decide (256 < x)) = true then t else wrap64 (t + x)) ((j + 1 : Nat) : Int) := fun k => by
        have q1 : (0 : Int) ≤ (i : Int) := by omega
        have q2 : (i : Int) < (m.length : Int) := by omega
        have q3 : (j : Int) < ((m.getD i []).length : Int) := by omega
        have q4 : (0 : Int) ≤ (j : Int) := by omega
        simp only [PZeroValid.demonref3_ChannelError.l2, rdL_nat, rd_nat, if_pos q1, if_pos q2, if_pos q3, if_pos q4, hx, if_neg hn, wrap_up j (by omega)]
        cases g <;> cases s <;> by_cases hb : 256 < x <;> simp [hb]
      refine Ev.step hstep ?_
      cases hgb : (g || decide (256 < x))
      · rw [hgb] at hg
        rw [if_neg (by decide)] at hg ⊢
        have hxl : ¬ 256 < x := fun h => by rw [decide_eq_true h] at hgb; simp at hgb
        rw [wrap_le (t + x) (by omega) (by omega)]
        exact i0 _ _ _ (by omega) (by push_cast; omega) hg
      · rw [hgb] at hg
        rw [if_pos rfl] at hg ⊢
        exact i0 _ _ _ h0 (by push_cast; omega) hg
theorem ch_l1 (m : List (List Int)) (hm : m.length ≤ 2000000) (h16 : ∀ i, i < m.length → (m.getD i []).length ≤ 16) : ∀ (d i : Nat) (g : Bool), i + d = m.length → Ev (fun k => PZeroValid.demonref3_ChannelError.l1 k m g (i : Int)) (chFrom (m.getD 0 []).length g (m.drop i)) := by
  intro d
  induction d with
  | zero =>
    intro i g hi
    obtain rfl : i = m.length := by omega
    rw [List.drop_length]
    refine Ev.step (f := fun _ => some (if g = true then 2 else 0)) (fun k => ?_) (Ev.now _)
    simp only [PZeroValid.demonref3_ChannelError.l1]
    rw [if_neg (by omega)]
    cases g <;> rfl
  | succ d ih =>
    intro i g hi
    have hil : i < m.length := by omega
    rw [dropL_at m i hil]
    have hr : chFrom (m.getD 0 []).length g (m.getD i [] :: m.drop (i + 1)) = if (m.getD i []).length ≠ (m.getD 0 []).length then 3 else match rowRes g false 0 (m.getD i []) with | none => 3 | some g' => chFrom (m.getD 0 []).length g' (m.drop (i + 1)) := rfl
    rw [hr]
    by_cases hc : (m.getD i []).length = (m.getD 0 []).length
    · rw [if_neg (fun h => h hc)]
      refine Ev.step (f := fun k => PZeroValid.demonref3_ChannelError.l2 k m g (i : Int) false 0 ((0 : Nat) : Int)) (fun k => ?_) (ch_l2 m i hil hm (h16 i hil) _ _ 0 g false 0 (Nat.zero_add _) (by omega) (by omega) ?_)
      · simp only [PZeroValid.demonref3_ChannelError.l1, rdL_nat]
        rw [if_pos (by omega), if_pos (by omega), if_pos (by omega)]
        show (if ((m.getD i []).length : Int) = ((m.getD 0 []).length : Int) then _ else _) = _
        rw [if_pos (by omega)]
        rfl
      · rw [List.drop_zero]
        cases rowRes g false 0 (m.getD i []) with
        | none => rfl
        | some g' => exact ih (i + 1) g' (by omega)
    · rw [if_pos hc]
      refine Ev.step (f := fun _ => some 3) (fun k => ?_) (Ev.now 3)
      simp only [PZeroValid.demonref3_ChannelError.l1, rdL_nat]
      rw [if_pos (by omega), if_pos (by omega), if_pos (by omega)]
      show (if ((m.getD i []).length : Int) = ((m.getD 0 []).length : Int) then _ else _) = _
      rw [if_neg (by omega)]
theorem ch_l0 (m : List (List Int)) (hm : m.length ≤ 16) (v : Int) (hv : v = if m.any (fun r => decide (16 < r.length)) = true then 2 else if m.length = 0 then 3 else chFrom (m.getD 0 []).length false m) : ∀ (d i : Nat), i + d = m.length → (m.take i).any (fun r => decide (16 < r.length)) = false → Ev (fun k => PZeroValid.demonref3_ChannelError.l0 k m (i : Int)) v := by
  intro d
  induction d with
  | zero =>
    intro i hi ha
    obtain rfl : i = m.length := by omega
    rw [List.take_length] at ha
    rw [ha, if_neg (by decide)] at hv
    by_cases h0 : m.length = 0
    · rw [if_pos h0] at hv
      rw [hv]
      refine Ev.step (f := fun _ => some 3) (fun k => ?_) (Ev.now 3)
      simp only [PZeroValid.demonref3_ChannelError.l0]
      rw [if_neg (by omega), if_pos (by omega)]
    · rw [if_neg h0] at hv
      rw [hv]
      have h16 : ∀ i, i < m.length → (m.getD i []).length ≤ 16 := fun i hi => by
        rw [getD_eq m i _ hi]
        have := List.any_eq_false.1 ha m[i] (List.getElem_mem hi)
        have := of_decide_eq_false (Bool.eq_false_iff.2 this)
        omega
      refine Ev.step (fun k => ?_) (ch_l1 m (by omega) h16 m.length 0 false (Nat.zero_add _))
      simp only [PZeroValid.demonref3_ChannelError.l0]
      rw [if_neg (by omega), if_neg (by omega)]
      rfl
  | succ d ih =>
    intro i hi ha
    have hil : i < m.length := by omega
    by_cases hb : 16 < (m.getD i []).length
    · have : m.any (fun r => decide (16 < r.length)) = true := List.any_eq_true.2 ⟨m[i], List.getElem_mem hil, by rw [getD_eq m i _ hil] at hb; exact decide_eq_true hb⟩
      rw [this, if_pos rfl] at hv
      rw [hv]
      refine Ev.step (f := fun _ => some 2) (fun k => ?_) (Ev.now 2)
      have q : ((PZeroValid.rd_L1 m (i : Int)).length : Int) > 16 := by
        show ((m.getD i []).length : Int) > 16
        omega
      simp only [PZeroValid.demonref3_ChannelError.l0]
      rw [if_pos (by omega), if_pos (by omega), if_pos q]
    · refine Ev.step (fun k => ?_) (ih (i + 1) (by omega) ?_)
      · have q : ¬ ((PZeroValid.rd_L1 m (i : Int)).length : Int) > 16 := by
          show ¬ ((m.getD i []).length : Int) > 16
          omega
        simp only [PZeroValid.demonref3_ChannelError.l0]
        rw [if_pos (by omega), if_pos (by omega), if_neg q, wrap_up i (by omega)]
      · rw [takeL_at m i hil, List.any_append, ha, Bool.false_or]
        show (decide (16 < (m.getD i []).length) || false) = false
        rw [decide_eq_false hb]
        rfl
theorem chErr_from (m : List (List Int)) (h : ¬ 16 < m.length) : chErr m = if m.any (fun r => decide (16 < r.length)) = true then 2 else if m.length = 0 then 3 else chFrom (m.getD 0 []).length false m := by
  unfold chErr
  rw [chFrom_is, Bool.false_or]
  by_cases h1 : m.any (fun r => decide (16 < r.length)) = true
  · rw [if_pos (.inr h1), if_pos h1]
  · rw [if_neg (fun q => q.elim h h1), if_neg h1]
    by_cases h2 : m.length = 0
    · rw [if_pos (.inl h2), if_pos h2]
    · rw [if_neg h2]
      by_cases h3 : m.any (badR (m.getD 0 []).length) = true
      · rw [if_pos (.inr h3), if_pos h3]
      · rw [if_neg (fun q => q.elim h2 h3), if_neg h3]
theorem ch_f (m : List (List Int)) : ∃ k, PZeroValid.demonref3_ChannelError.f k m = some (chErr m) := by
  by_cases h : 16 < m.length
  · refine ⟨0, ?_⟩
    unfold PZeroValid.demonref3_ChannelError.f chErr
    rw [if_pos (by omega), if_pos (.inl h)]
  · obtain ⟨k, hk⟩ := (ch_l0 m (by omega) (chErr m) (chErr_from m h) m.length 0 (Nat.zero_add _) rfl).rounds
    refine ⟨k, ?_⟩
    unfold PZeroValid.demonref3_ChannelError.f
    rw [if_neg (by omega)]
    exact hk
theorem few_ok (A : Option Addr) (m : List (List Int)) (c : Nat) (w : World) (hA : Lists w A m) (hc : m.length ≤ c) (hl : m.length ≤ 2000000) (hf : m.flatten.length ≤ 2000000) :
    Calls Tryd.prog 19 #[.slice A m.length c] w fun e w' => e = .returned (.bool (fewOf m)) ∧ Below w.heap.size w w' :=
  PZeroValid.demonlaw3_few.calls (m.length + 1) A c m (fewOf m) w hA.toC hc (few_f m hl hf _ (by omega))
theorem chErr_any (A : Option Addr) (m : List (List Int)) (c : Nat) (w : World) (hA : Lists w A m) (hc : m.length ≤ c) :
    Calls Tryd.prog 21 #[.slice A m.length c] w fun e w' => e = .returned (.int .i64 (chErr m)) ∧ Below w.heap.size w w' := by
  obtain ⟨k, hk⟩ := ch_f m
  refine (PZeroValid.demonref3_ChannelError.calls k A c m (chErr m) w hA.toC hc hk).mono ?_
  rintro e w' ⟨rfl, nd, rfl⟩
  exact ⟨rfl, below_drewN' (Below.refl _ _) _⟩
theorem lists_ok (A : Option Addr) (m : List (List Int)) (c : Nat) (w : World) (hA : Lists w A m) (hc : m.length ≤ c) (hl : m.length ≤ 2000000) (hf : m.flatten.length ≤ 2000000) :
    Calls Tryd.prog 24 #[.slice A m.length c] w fun e w' => ∃ B d, e = .returned (.slice B m.length d) ∧ Lists w' B m ∧ m.length ≤ d ∧ Below w.heap.size w w' := by
  refine (PZeroValid.demonlaw3_lists.calls (m.length + 1) A c m m w hA.toC hc (lists_f m hl hf _ (by omega))).mono ?_
  rintro e w' ⟨v, rfl, hS, hb⟩
  obtain ⟨B, d, rfl, hI, hd⟩ := Lists.ofR (Kd.S_R hS)
  exact ⟨B, d, rfl, hI, hd, hb⟩
end Go.Proofs.YtehheklbibocjaaDoor

/-
  DERIVED: THE SHELF's CONTRACTS AT THIS DUMP, IN PLAIN WORDS (tools/lay-plain.mjs out of 'TrydzShelf.lean', which tools/lay-shelf.mjs wrote): THE SAME DECLARATIONS UNDER THE SAME NAMES: 'import', 'namespace', 'open', 'def', 'theorem' AND NOTHING ELSE: no command of the shelf's: FOR A HAND-IN. Each laying: the table of numbers ('.._ren') and one theorem, a field a fact of the dump's own or the kernel's comparison; each contract: ONE APPLICATION.
-/
namespace Go.Proofs
open Go.Shelf
def Tryd.lays215_ren : Go.Shelf.Ren := ⟨fun | 215 => 49 | n => n, fun | 3 => 3 | 4 => 4 | n => n, fun | n => n⟩
theorem Tryd.lays215 : Go.Proofs.Lays.n215 Tryd.prog Tryd.lays215_ren := {
  mixed := by kernel_rfl
  f215 := Tryd.func49.trans (congrArg some (by kernel_rfl))
  t3 := Tryd.underlying3
  a3 := Tryd.isAgg3
  z3 := Tryd.sizeOf3
  v3 := Tryd.zeroValue3
  t4 := Tryd.underlying4
  a4 := Tryd.isAgg4
  z4 := Tryd.sizeOf4
  v4 := Tryd.zeroValue4 }
open Go.RowKit in
/-- cmp.isNaN at int: 'x != x': false. (LAID: no walk: one application.) -/
theorem Tryd.cmp_isNaN_int (x : Int) (w : World) :
    Calls Tryd.prog 49 #[.int .i64 x] w fun e w' => e = .returned (.bool false) ∧ w' = w := Any.cmp_isNaN_int Tryd.lays215 x w
def Tryd.lays122_ren : Go.Shelf.Ren := ⟨fun | 122 => 40 | 215 => 49 | n => n, fun | 3 => 3 | 4 => 4 | n => n, fun | n => n⟩
theorem Tryd.lays122 : Go.Proofs.Lays.n122 Tryd.prog Tryd.lays122_ren := {
  mixed := by kernel_rfl
  f122 := Tryd.func40.trans (congrArg some (by kernel_rfl))
  f215 := Tryd.func49.trans (congrArg some (by kernel_rfl))
  t3 := Tryd.underlying3
  a3 := Tryd.isAgg3
  z3 := Tryd.sizeOf3
  v3 := Tryd.zeroValue3
  t4 := Tryd.underlying4
  a4 := Tryd.isAgg4
  z4 := Tryd.sizeOf4
  v4 := Tryd.zeroValue4 }
open Go.RowKit in
/-- cmp.Compare at int: "Compare returns -1 if x is less than y, 0 if x equals y, +1 if x is greater than y.": IT RETURNS 'Lib.compareInt x y'; the world is as it was. (LAID: no walk: one application.) -/
theorem Tryd.cmp_Compare_int (x y : Int) (w : World) :
    Calls Tryd.prog 40 #[.int .i64 x, .int .i64 y] w fun e w' => e = .returned (.int .i64 (Lib.compareInt x y)) ∧ w' = w := Any.cmp_Compare_int Tryd.lays122 x y w
def Tryd.lays113_ren : Go.Shelf.Ren := ⟨fun | 113 => 42 | n => n, fun | 28 => 33 | 3 => 3 | 4 => 4 | 9 => 9 | 20 => 20 | 0 => 0 | n => n, fun | n => n⟩
theorem Tryd.lays113 : Go.Proofs.Lays.n113 Tryd.prog Tryd.lays113_ren := {
  mixed := by kernel_rfl
  f113 := Tryd.func42.trans (congrArg some (by kernel_rfl))
  t0 := Tryd.underlying0
  a0 := Tryd.isAgg0
  z0 := Tryd.sizeOf0
  v0 := Tryd.zeroValue0
  t3 := Tryd.underlying3
  a3 := Tryd.isAgg3
  z3 := Tryd.sizeOf3
  v3 := Tryd.zeroValue3
  t4 := Tryd.underlying4
  a4 := Tryd.isAgg4
  z4 := Tryd.sizeOf4
  v4 := Tryd.zeroValue4
  t9 := Tryd.underlying9
  a9 := Tryd.isAgg9
  z9 := Tryd.sizeOf9
  v9 := Tryd.zeroValue9
  t20 := Tryd.underlying20
  a20 := Tryd.isAgg20
  z20 := Tryd.sizeOf20
  v20 := Tryd.zeroValue20
  t28 := Tryd.underlying33
  a28 := Tryd.isAgg33
  z28 := Tryd.sizeOf33
  v28 := Tryd.zeroValue33 }
open Go.Lib in
/-- slices.Max at []int: "Max returns the maximal value in x. It panics if x is empty.": OF A SLICE THAT IS NOT EMPTY IT RETURNS 'Lib.maxOf (the elements)'; the world is as it was. (Of an empty one it panics: no contract here.) (LAID: no walk: one application.) -/
theorem Tryd.slices_Max_int (b off n c : Nat) (zs : List Int) (w : World) (hn : 0 < n) (hz : n ≤ zs.length) (hbig : n ≤ 9223372036854775807) (hc : ∀ j, j < zs.length → w.cell? ⟨b, off + j, none⟩ = some (.int .i64 (zs.getD j 0))) :
    Calls Tryd.prog 42 #[.slice (some ⟨b, off, none⟩) n c] w fun e w' => e = .returned (.int .i64 (Lib.maxOf (zs.take n))) ∧ w' = w := Any.slices_Max_int Tryd.lays113 b off n c zs w hn hz hbig hc
def Tryd.lays114_ren : Go.Shelf.Ren := ⟨fun | 114 => 41 | n => n, fun | 28 => 33 | 3 => 3 | 4 => 4 | 9 => 9 | 20 => 20 | 0 => 0 | n => n, fun | n => n⟩
theorem Tryd.lays114 : Go.Proofs.Lays.n114 Tryd.prog Tryd.lays114_ren := {
  mixed := by kernel_rfl
  f114 := Tryd.func41.trans (congrArg some (by kernel_rfl))
  t0 := Tryd.underlying0
  a0 := Tryd.isAgg0
  z0 := Tryd.sizeOf0
  v0 := Tryd.zeroValue0
  t3 := Tryd.underlying3
  a3 := Tryd.isAgg3
  z3 := Tryd.sizeOf3
  v3 := Tryd.zeroValue3
  t4 := Tryd.underlying4
  a4 := Tryd.isAgg4
  z4 := Tryd.sizeOf4
  v4 := Tryd.zeroValue4
  t9 := Tryd.underlying9
  a9 := Tryd.isAgg9
  z9 := Tryd.sizeOf9
  v9 := Tryd.zeroValue9
  t20 := Tryd.underlying20
  a20 := Tryd.isAgg20
  z20 := Tryd.sizeOf20
  v20 := Tryd.zeroValue20
  t28 := Tryd.underlying33
  a28 := Tryd.isAgg33
  z28 := Tryd.sizeOf33
  v28 := Tryd.zeroValue33 }
open Go.Lib in
/-- slices.Min at []int: "Min returns the minimal value in x. It panics if x is empty.": OF A SLICE THAT IS NOT EMPTY IT RETURNS 'Lib.minOf (the elements)'; the world is as it was. (Of an empty one it panics: no contract here.) (LAID: no walk: one application.) -/
theorem Tryd.slices_Min_int (b off n c : Nat) (zs : List Int) (w : World) (hn : 0 < n) (hz : n ≤ zs.length) (hbig : n ≤ 9223372036854775807) (hc : ∀ j, j < zs.length → w.cell? ⟨b, off + j, none⟩ = some (.int .i64 (zs.getD j 0))) :
    Calls Tryd.prog 41 #[.slice (some ⟨b, off, none⟩) n c] w fun e w' => e = .returned (.int .i64 (Lib.minOf (zs.take n))) ∧ w' = w := Any.slices_Min_int Tryd.lays114 b off n c zs w hn hz hbig hc
def Tryd.laysNm215_ren : Go.Shelf.Ren := ⟨fun | 15 => 27 | n => n, fun | 22 => 33 | 3 => 3 | 4 => 4 | n => n, fun | n => n⟩
theorem Tryd.laysNm215 : Go.Proofs.Lays2.n15 Tryd.prog Tryd.laysNm215_ren := {
  mixed := by kernel_rfl
  f15 := Tryd.func27.trans (congrArg some (by kernel_rfl))
  t3 := Tryd.underlying3
  a3 := Tryd.isAgg3
  z3 := Tryd.sizeOf3
  v3 := Tryd.zeroValue3
  t4 := Tryd.underlying4
  a4 := Tryd.isAgg4
  z4 := Tryd.sizeOf4
  v4 := Tryd.zeroValue4
  t22 := Tryd.underlying33
  a22 := Tryd.isAgg33
  z22 := Tryd.sizeOf33
  v22 := Tryd.zeroValue33
  i3 := by kernel_rfl }
open Go.RowKit Go.Lib in
/-- slices.Clone at []int: "Clone returns a copy of the slice. The elements are copied using assignment, so this is a shallow clone. The result may have additional unused capacity. The result preserves the nilness of s.": OF A SLICE THAT IS NOT nil IT RETURNS A SLICE THAT IS NOT nil, OF THE SAME ELEMENTS, IN MEMORY OF THE CALL's OWN: in the how-to's words (6f): 'w'.ownsRow B e 1 v' n cells': v' begins at the head of a row among the blocks from B on (B: the heap's size at the call), not frozen, whose first cells are the elements · 'Below B w w'': below B all is as it was. The capacity is whatever the run-time gives. 'zs': what the cells behind the slice's address hold; 'zs.take n': its elements. (LAID: no walk: one application.) -/
theorem Tryd.slices_Clone_int (b off n c : Nat) (zs : List Int) (w : World) (hz : n ≤ zs.length) (hbig : n * 8 ≤ 140737488355328) (hc : ∀ j, j < zs.length → w.cell? ⟨b, off + j, none⟩ = some (.int .i64 (zs.getD j 0))) :
    Calls Tryd.prog 27 #[.slice (some ⟨b, off, none⟩) n c] w fun e w' => ∃ v', e = .returned v' ∧ w'.ownsRow w.heap.size 3 1 v' n ((zs.take n).map (Value.int .i64)) ∧ v' ≠ .slice none 0 0 ∧ Below w.heap.size w w' := Any.slices_Clone_int Tryd.laysNm215 b off n c zs w hz hbig hc
open Go.RowKit Go.Lib in
/-- The same at nil: nil comes back; the world is as it was. (LAID: no walk: one application.) -/
theorem Tryd.slices_Clone_int_nil (n c : Nat) (w : World) :
    Calls Tryd.prog 27 #[.slice none n c] w fun e w' => e = .returned (.slice none 0 0) ∧ w' = w := Any.slices_Clone_int_nil Tryd.laysNm215 n c w
open Go.RowKit Go.Lib in
/-- The same at a slice of length 0 that is not nil, WHATEVER ITS ADDRESS (no cell is asked for): a slice that is not nil and owns nothing comes back. (LAID: no walk: one application.) -/
theorem Tryd.slices_Clone_int_zero (a : Addr) (c : Nat) (w : World) :
    Calls Tryd.prog 27 #[.slice (some a) 0 c] w fun e w' => ∃ v', e = .returned v' ∧ w'.ownsRow w.heap.size 3 1 v' 0 [] ∧ v' ≠ .slice none 0 0 ∧ Below w.heap.size w w' := Any.slices_Clone_int_zero Tryd.laysNm215 a c w
def Tryd.laysNm237_ren : Go.Shelf.Ren := ⟨fun | 37 => 49 | n => n, fun | 3 => 3 | 4 => 4 | n => n, fun | n => n⟩
theorem Tryd.laysNm237 : Go.Proofs.Lays2.n37 Tryd.prog Tryd.laysNm237_ren := {
  mixed := by kernel_rfl
  f37 := Tryd.func49.trans (congrArg some (by kernel_rfl))
  t3 := Tryd.underlying3
  a3 := Tryd.isAgg3
  z3 := Tryd.sizeOf3
  v3 := Tryd.zeroValue3
  t4 := Tryd.underlying4
  a4 := Tryd.isAgg4
  z4 := Tryd.sizeOf4
  v4 := Tryd.zeroValue4 }
open Go.RowKit Go.Lib in
/-- cmp.isNaN[int]: 'x != x': false. (LAID: no walk: one application.) -/
theorem Tryd.cmp_isNaN_int2 (x : Int) (w : World) :
    Calls Tryd.prog 49 #[.int .i64 x] w fun e w' => e = .returned (.bool false) ∧ w' = w := Any.cmp_isNaN_int2 Tryd.laysNm237 x w
end Go.Proofs

/- Plain words of graphs: the error's number, the neighbours as bits, the search for a greatest set alone. No condition. -/
namespace Go.Proofs.YtehheklbibocjaaDoor

/-- is the edge at place i wrong? -/
def edgeBad (n : Int) (l : List (Int × Int)) (i : Nat) : Bool :=
  decide ((l.getD i (0, 0)).1 < 0 ∨ (l.getD i (0, 0)).2 ≤ (l.getD i (0, 0)).1 ∨ n ≤ (l.getD i (0, 0)).2 ∨ (0 < i ∧ ((l.getD i (0, 0)).1 < (l.getD (i - 1) (0, 0)).1 ∨ ((l.getD (i - 1) (0, 0)).1 = (l.getD i (0, 0)).1 ∧ (l.getD i (0, 0)).2 ≤ (l.getD (i - 1) (0, 0)).2))))
/-- the number of a graph's error -/
def gErr (n : Int) (l : List (Int × Int)) : Int := if n < 0 ∨ 16 < n then 2 else if (List.range l.length).any (edgeBad n l) then 3 else 0
/-- all edges ahead of place k are right -/
structure GoodE (n : Int) (l : List (Int × Int)) (k : Nat) : Prop where
  out : ∀ j, j < k → edgeBad n l j = false
theorem GoodE.zero (n : Int) (l : List (Int × Int)) : GoodE n l 0 := ⟨fun j h => absurd h (by omega)⟩
theorem GoodE.succ {n : Int} {l : List (Int × Int)} {k : Nat} (h : GoodE n l k) (hk : edgeBad n l k = false) : GoodE n l (k + 1) :=
  ⟨fun j hj => by
    by_cases e : j = k
    · rw [e]; exact hk
    · exact h.out j (by omega)⟩
theorem gErr_big {n : Int} {l : List (Int × Int)} (h : n < 0 ∨ 16 < n) : gErr n l = 2 := by unfold gErr; rw [if_pos h]
theorem gErr_bad {n : Int} {l : List (Int × Int)} {k : Nat} (h0 : 0 ≤ n) (h1 : n ≤ 16) (hk : k < l.length) (hb : edgeBad n l k = true) : gErr n l = 3 := by
  unfold gErr
  rw [if_neg (by omega), if_pos]
  rw [List.any_eq_true]
  exact ⟨k, List.mem_range.2 hk, hb⟩
theorem gErr_good {n : Int} {l : List (Int × Int)} (h0 : 0 ≤ n) (h1 : n ≤ 16) (h : GoodE n l l.length) : gErr n l = 0 := by
  unfold gErr
  rw [if_neg (by omega), if_neg]
  rw [List.any_eq_true]
  rintro ⟨i, hi, hb⟩
  rw [h.out i (List.mem_range.1 hi)] at hb
  cases hb
theorem gErr_zero {n : Int} {l : List (Int × Int)} (h : gErr n l = 0) : 0 ≤ n ∧ n ≤ 16 ∧ GoodE n l l.length := by
  unfold gErr at h
  by_cases c : n < 0 ∨ 16 < n
  · rw [if_pos c] at h; cases h
  · rw [if_neg c] at h
    by_cases d : (List.range l.length).any (edgeBad n l) = true
    · rw [if_pos d] at h; cases h
    · refine ⟨by omega, by omega, ⟨fun j hj => ?_⟩⟩
      cases e : edgeBad n l j
      · rfl
      · exact absurd (List.any_eq_true.2 ⟨j, List.mem_range.2 hj, e⟩) d
theorem gErr_cases (n : Int) (l : List (Int × Int)) : gErr n l = 0 ∨ gErr n l = 2 ∨ gErr n l = 3 := by
  unfold gErr
  split
  · exact .inr (.inl rfl)
  · split
    · exact .inr (.inr rfl)
    · exact .inl rfl
/-- what a right graph's edge is -/
theorem GoodE.edge {n : Int} {l : List (Int × Int)} {k i : Nat} (h : GoodE n l k) (hi : i < k) : 0 ≤ (l.getD i (0, 0)).1 ∧ (l.getD i (0, 0)).1 < (l.getD i (0, 0)).2 ∧ (l.getD i (0, 0)).2 < n := by
  have := of_decide_eq_false (h.out i hi)
  omega
/-- the edge's own part, and what it is behind another one -/
theorem edgeBad_own {n : Int} {l : List (Int × Int)} {i : Nat} {p q : Int} (hp : (l.getD i (0, 0)).1 = p) (hq : (l.getD i (0, 0)).2 = q) (h : p < 0 ∨ q ≤ p ∨ n ≤ q) : edgeBad n l i = true := by
  subst hp hq
  exact decide_eq_true (by omega)
theorem edgeBad_pre {n : Int} {l : List (Int × Int)} {i : Nat} {p q a b : Int} (hp : (l.getD (i + 1) (0, 0)).1 = p) (hq : (l.getD (i + 1) (0, 0)).2 = q) (ha : (l.getD i (0, 0)).1 = a) (hb : (l.getD i (0, 0)).2 = b) (h : p < a ∨ (a = p ∧ q ≤ b)) : edgeBad n l (i + 1) = true := by
  subst hp hq ha hb
  refine decide_eq_true (.inr (.inr (.inr ⟨by omega, ?_⟩)))
  rw [Nat.add_sub_cancel]
  exact h
theorem edgeBad_first {n : Int} {l : List (Int × Int)} {p q : Int} (hp : (l.getD 0 (0, 0)).1 = p) (hq : (l.getD 0 (0, 0)).2 = q) (h : 0 ≤ p ∧ p < q ∧ q < n) : edgeBad n l 0 = false := by
  subst hp hq
  exact decide_eq_false (by omega)
theorem edgeBad_next {n : Int} {l : List (Int × Int)} {i : Nat} {p q a b : Int} (hp : (l.getD (i + 1) (0, 0)).1 = p) (hq : (l.getD (i + 1) (0, 0)).2 = q) (ha : (l.getD i (0, 0)).1 = a) (hb : (l.getD i (0, 0)).2 = b) (h : 0 ≤ p ∧ p < q ∧ q < n) (h' : ¬(p < a ∨ (a = p ∧ q ≤ b))) : edgeBad n l (i + 1) = false := by
  subst hp hq ha hb
  refine decide_eq_false ?_
  rw [Nat.add_sub_cancel]
  intro c
  rcases c with c | c | c | ⟨_, c⟩
  · omega
  · omega
  · omega
  · exact h' c

/-- a list's place i, with the bits x put in -/
def orAt (M : List Nat) (i : Nat) (x : Nat) : List Nat := M.set i (M.getD i 0 ||| x)
/-- an edge put in -/
def put1 (M : List Nat) (e : Int × Int) : List Nat := orAt (orAt M e.1.toNat (2 ^ e.2.toNat)) e.2.toNat (2 ^ e.1.toNat)
/-- of each vertex its neighbours, as bits -/
def nearL (n : Nat) (l : List (Int × Int)) : List Nat := l.foldl put1 (List.replicate n 0)
theorem orAt_length (M : List Nat) (i x : Nat) : (orAt M i x).length = M.length := by unfold orAt; rw [List.length_set]
theorem put1_length (M : List Nat) (e : Int × Int) : (put1 M e).length = M.length := by unfold put1; rw [orAt_length, orAt_length]
theorem putAll_length (l : List (Int × Int)) (M : List Nat) : (l.foldl put1 M).length = M.length := by
  induction l generalizing M with
  | nil => rfl
  | cons e l ih => rw [List.foldl_cons, ih, put1_length]
theorem nearL_length (n : Nat) (l : List (Int × Int)) : (nearL n l).length = n := by unfold nearL; rw [putAll_length, List.length_replicate]
theorem natGetD_set (M : List Nat) (i j x : Nat) (h : i < M.length) : (M.set i x).getD j 0 = if i = j then x else M.getD j 0 := by
  rw [List.getD_eq_getElem?_getD, List.getElem?_set]
  by_cases e : i = j
  · subst e
    rw [if_pos rfl, if_pos rfl, if_pos h]
    rfl
  · rw [if_neg e, if_neg e, ← List.getD_eq_getElem?_getD]
/-- all bits lie below place 16 -/
def Low (M : List Nat) : Prop := ∀ i, M.getD i 0 < 2 ^ 16
theorem Low.orAt {M : List Nat} (h : Low M) {i x : Nat} (hi : i < M.length) (hx : x < 2 ^ 16) : Low (orAt M i x) := fun j => by
  unfold Go.Proofs.YtehheklbibocjaaDoor.orAt
  rw [natGetD_set _ _ _ _ hi]
  split
  · exact Nat.or_lt_two_pow (h i) hx
  · exact h j
theorem Low.zero (n : Nat) : Low (List.replicate n 0) := fun i => by
  rw [List.getD_eq_getElem?_getD, List.getElem?_replicate]
  split <;> simp
theorem pow_lt16 {n : Nat} (h : n < 16) : 2 ^ n < 2 ^ 16 := Nat.pow_lt_pow_right (by decide) h
theorem Low.put1 {M : List Nat} (h : Low M) {e : Int × Int} (h1 : e.1.toNat < M.length) (h2 : e.2.toNat < M.length) (hm : M.length ≤ 16) : Low (put1 M e) := by
  unfold Go.Proofs.YtehheklbibocjaaDoor.put1
  exact (h.orAt h1 (pow_lt16 (by omega))).orAt (by rw [orAt_length]; exact h2) (pow_lt16 (by omega))

/-- how many bits a number below 2^16 has -/
def pop (x : Nat) : Nat := ((List.range 16).filter fun i => x.testBit i).length
/-- the better one of two -/
def upd (now best : List Int) : List Int := if best.length < now.length then now else best
/-- left without a set of bits -/
def without (left m : Nat) : Nat := left &&& (18446744073709551615 - m)
/-- the search's loop: k vertices yet to come, left those that may join, now what has joined -/
def loopF (M : List Nat) (n : Nat) : Nat → Nat → List Int → List Int → List Int
  | 0, _, _, best => best
  | k + 1, left, now, best =>
    if (left / 2 ^ (n - (k + 1))) % 2 = 0 ∨ now.length + pop (left / 2 ^ (n - (k + 1))) ≤ best.length then loopF M n k left now best
    else loopF M n k left now (loopF M n k (without left (M.getD (n - (k + 1)) 0)) (now ++ [((n - (k + 1) : Nat) : Int)]) (upd (now ++ [((n - (k + 1) : Nat) : Int)]) best))
/-- the greatest set alone, by the search -/
def aloneL (n : Nat) (l : List (Int × Int)) : List Int := loopF (nearL n l) n n (2 ^ n - 1) [] []
theorem pent_alone : aloneL 5 [(0, 1), (0, 4), (1, 2), (2, 3), (3, 4)] = [0, 2] := by decide
end Go.Proofs.YtehheklbibocjaaDoor

/- The walks of little, graph, back and GraphError. No condition. -/
namespace Go.Proofs.YtehheklbibocjaaDoor
open Go.RowKit Go.Deep

set_option maxHeartbeats 400000 in
theorem little_any (n : Int) (A : Option Addr) (len cap : Nat) (w : World) (hl : len ≤ 9223372036854775807) :
    Calls Tryd.prog 8 #[.agg #[.int .i64 n, .slice A len cap]] w fun e w' => e = .returned (.bool (decide (len ≤ 200))) ∧ Below w.heap.size w w' := by
  go_enter Tryd.func8, Tryd.ntmps8
  go_wp2
  go_ret
  refine ⟨ret_bool ?_, (Below.refl _ _).alloc (Nat.le_refl _) _⟩
  rw [Bool.eq_iff_iff]
  simp
  omega

/-- what graph gives -/
def RetGr (n : Int) (l : List (Int × Int)) (w : World) (e : Ending) (w' : World) : Prop :=
  ∃ A c, e = .returned (.agg #[.int .i64 n, .slice A l.length c]) ∧ Pairs w' A l ∧ l.length ≤ c ∧ Below w.heap.size w w'

set_option maxHeartbeats 1000000 in
theorem graph_any (n : Int) (A : Option Addr) (l : List (Int × Int)) (cap : Nat) (w : World) (hP : Pairs w A l) (hl : l.length ≤ 1000) :
    Calls Tryd.prog 10 #[.agg #[.int .i64 n, .slice A l.length cap]] w (RetGr n l w) := by
  have hlen := hP.len
  go_enter Tryd.func10, Tryd.ntmps10
  go_wp2_with
    (at_builtin
     refine wp_app_pairs _ rfl (.tmp 8) (.tmp 10) rfl (w.heap.size + 1 + 1 + 1) (.slice none 0 0) [] rfl (nil_own _ _ _ _) A l.length cap l rfl rfl (hP.below (below_alloc' (below_alloc' (below_alloc' (Below.refl _ _) _) _) _)) (by simp only [List.length_nil]; omega) (by simp only [World.size_alloc]; omega) ?_
     intro A1 c1 w1 hc1 hown1 hg1 hat1
     have hb1 := below_of_grown hg1 rfl
     obtain ⟨k1, k2⟩ := below_cells hb1
     have hz1 : w.heap.size + 1 + 1 < w1.heap.size := by have := hb1.size; simp at this; omega
     clear hg1 hat1)
  refine bodyPost_ret (v := .agg #[.int .i64 n, .slice A1 l.length c1]) (by simp [results, Tryd.results10, go_sem, k1]) rfl ?_
  have q1 := ownsRow_setCell_below hown1 (a := ⟨w.heap.size + 1 + 1, 1, none⟩) (by show w.heap.size + 1 + 1 < w.heap.size + 1 + 1 + 1; omega) (.slice A1 l.length c1)
  have q2 := ownsRow_setCell_below q1 (a := ⟨w.heap.size + 1, 0, none⟩) (by show w.heap.size + 1 < w.heap.size + 1 + 1 + 1; omega) (.int .i64 n)
  have q3 := ownsRow_setCell_below q2 (a := ⟨w.heap.size + 1, 1, none⟩) (by show w.heap.size + 1 < w.heap.size + 1 + 1 + 1; omega) (.slice A1 l.length c1)
  refine ⟨A1, c1, rfl, Pairs.own q3, hc1, ?_⟩
  have h0 : Below w.heap.size w w1 := below_trans (below_alloc' (below_alloc' (below_alloc' (Below.refl _ _) _) _) _) hb1
  exact ((h0.setCell (by simp; omega) _).setCell (by simp) _).setCell (by simp) _

set_option maxHeartbeats 1000000 in
theorem back_any (n : Int) (A : Option Addr) (len cap : Nat) (w : World) :
    Calls Tryd.prog 18 #[.agg #[.int .i64 n, .slice A len cap]] w fun e w' => e = .returned (.agg #[.int .i64 n, .slice A len cap]) ∧ Below w.heap.size w w' := by
  go_enter Tryd.func18, Tryd.ntmps18
  go_wp2
  refine bodyPost_ret (v := .agg #[.int .i64 n, .slice A len cap]) (by simp [results, Tryd.results18, go_sem]) rfl ?_
  refine ⟨rfl, ?_⟩
  exact below_alloc' (below_alloc' (Below.refl _ _) _) _

set_option maxHeartbeats 2000000 in
theorem graphErr_any (n : Int) (A : Option Addr) (l : List (Int × Int)) (cap : Nat) (w : World) (hP : Pairs w A l) :
    Calls Tryd.prog 12 #[.agg #[.int .i64 n, .slice A l.length cap]] w fun e w' => e = .returned (.int .i64 (gErr n l)) ∧ Below w.heap.size w w' := by
  have hl := hP.len
  by_cases g0 : n < 0
  · go_enter Tryd.func12, Tryd.ntmps12
    go_wp2
    go_ret
    exact ⟨ret_int (gErr_big (.inl g0)).symm, (Below.refl _ _).alloc (Nat.le_refl _) _⟩
  by_cases g1 : 16 < n
  · go_enter Tryd.func12, Tryd.ntmps12
    go_wp2
    go_ret
    exact ⟨ret_int (gErr_big (.inr g1)).symm, (Below.refl _ _).alloc (Nat.le_refl _) _⟩
  have h0 : 0 ≤ n := by omega
  have h1 : n ≤ 16 := by omega
  clear g0 g1
  go_enter Tryd.func12, Tryd.ntmps12
  go_wp2
  go_loop [3] (fun i => ∃ k : Nat, k ≤ l.length ∧ GoodE n l k ∧ i = .int .i64 k) (fun i => l.length - (intOf i).toNat)
  case atStart => exact ⟨0, Nat.zero_le _, GoodE.zero _ _, rfl⟩
  case round =>
    obtain ⟨k, hk, hg, rfl⟩ := hrel
    by_cases hlt : k < l.length
    · obtain ⟨b, off, rfl, hb, c1, c2⟩ := hP.at_ k hlt
      have HBAD := hide (fun h => gErr_bad (n := n) h0 h1 hlt h)
      have HOWN := hide (fun p q hp hq h => edgeBad_own (n := n) (l := l) (i := k) (p := p) (q := q) hp hq h)
      obtain ⟨p1, e1⟩ : ∃ p, (l.getD k (0,0)).1 = p := ⟨_, rfl⟩
      obtain ⟨p2, e2⟩ : ∃ p, (l.getD k (0,0)).2 = p := ⟨_, rfl⟩
      rw [e1] at c1
      rw [e2] at c2
      have k1 : (k : Int) < (l.length : Int) := by omega
      have k0 : (0 : Int) ≤ (k : Int) := Int.natCast_nonneg _
      by_cases hbad : p1 < 0 ∨ p2 ≤ p1 ∨ n ≤ p2
      · have HB := hide (HBAD.out (HOWN.out _ _ e1 e2 hbad))
        have HE := hide (And.intro e1 e2)
        clear e1 e2
        rcases Int.lt_or_le p1 0 with q | q
        · clear hbad
          go_wp2
          go_ret
          exact ⟨ret_int HB.out.symm, (Below.refl _ _).alloc (Nat.le_refl _) _⟩
        · by_cases q2 : p2 ≤ p1
          · clear hbad
            go_wp2
            go_ret
            exact ⟨ret_int HB.out.symm, (Below.refl _ _).alloc (Nat.le_refl _) _⟩
          · have q3 : n ≤ p2 := by omega
            have q4 : p1 < p2 := by omega
            clear hbad q2
            go_wp2
            go_ret
            exact ⟨ret_int HB.out.symm, (Below.refl _ _).alloc (Nat.le_refl _) _⟩
      · have r0 : 0 ≤ p1 := by omega
        have r1 : p1 < p2 := by omega
        have r2 : p2 < n := by omega
        clear hbad
        cases k with
        | zero =>
          have HF := hide (hg.succ (edgeBad_first e1 e2 ⟨r0, r1, r2⟩))
          clear e1 e2
          rw [Nat.zero_mul, Nat.add_zero] at c1 c2
          go_wp2
          go_round
          case rel => exact ⟨1, by omega, HF.out, by go_num⟩
          case measure => simp [intOf]; omega
        | succ j =>
          obtain ⟨b', off', ee, hb', d1, d2⟩ := hP.at_ j (by omega)
          injection ee with ee
          injection ee with ee1 ee2 _
          subst ee1 ee2
          obtain ⟨a1, f1⟩ : ∃ p, (l.getD j (0,0)).1 = p := ⟨_, rfl⟩
          obtain ⟨a2, f2⟩ : ∃ p, (l.getD j (0,0)).2 = p := ⟨_, rfl⟩
          rw [f1] at d1
          rw [f2] at d2
          have hj1 : (((j + 1 : Nat) : Int)) - 1 = (j : Int) := by omega
          have HX := hide (fun h => HBAD.out (edgeBad_pre e1 e2 f1 f2 h))
          have HN := hide (fun h => hg.succ (edgeBad_next e1 e2 f1 f2 ⟨r0, r1, r2⟩ h))
          clear e1 e2 f1 f2
          have z0 : (0 : Int) < ((j + 1 : Nat) : Int) := by omega
          rcases Int.lt_trichotomy p1 a1 with q | q | q
          · have HB := hide (HX.out (.inl q))
            have qb : (a1 == p1) = false := beq_eq_false_iff_ne.2 (by omega)
            go_wp2
            go_ret
            exact ⟨ret_int HB.out.symm, (Below.refl _ _).alloc (Nat.le_refl _) _⟩
          · subst q
            by_cases q2 : p2 ≤ a2
            · have HB := hide (HX.out (.inr ⟨rfl, q2⟩))
              go_wp2
              go_ret
              exact ⟨ret_int HB.out.symm, (Below.refl _ _).alloc (Nat.le_refl _) _⟩
            · have HF := hide (HN.out (by omega))
              go_wp2
              go_round
              case rel => exact ⟨j + 1 + 1, by omega, HF.out, by go_num⟩
              case measure => simp [intOf]; omega
          · have HF := hide (HN.out (by omega))
            have qb : (a1 == p1) = false := beq_eq_false_iff_ne.2 (by omega)
            go_wp2
            go_round
            case rel => exact ⟨j + 1 + 1, by omega, HF.out, by go_num⟩
            case measure => simp [intOf]; omega
    · obtain rfl : k = l.length := by omega
      have HF := hide (gErr_good h0 h1 hg)
      go_wp2
      go_ret
      exact ⟨ret_int HF.out.symm, (Below.refl _ _).alloc (Nat.le_refl _) _⟩
end Go.Proofs.YtehheklbibocjaaDoor

/- The walk of zero.Valid. Condition: the variables read as laid. -/
namespace Go.Proofs.YtehheklbibocjaaDoor
open Go.RowKit Go.Deep Go.Proofs.YtehheklbibocjaaDoorW.PrintWords

/-- how two pairs compare -/
def cmp2 (a b p q : Int) : Int := if a < p then -1 else if p < a then 1 else if b < q then -1 else if q < b then 1 else 0
theorem cmp_f (a p : Int) : PZeroAlone.cmp_Compare_int.f a p = some (if a < p then -1 else if p < a then 1 else 0) := by
  unfold PZeroAlone.cmp_Compare_int.f PZeroAlone.cmp_isNaN_int.f
  simp
  split
  · rfl
  · split <;> rfl
theorem compare_f (a b p q : Int) : PZeroAlone.slices_Compare_int_int.f 3 [a, b] [p, q] = some (cmp2 a b p q) := by
  unfold PZeroAlone.slices_Compare_int_int.f
  have w1 : wrap64 1 = 1 := by unfold wrap64; omega
  have w2 : wrap64 2 = 2 := by unfold wrap64; omega
  have r0 : rd [a, b] 0 = a := rfl
  have r1 : rd [a, b] 1 = b := rfl
  have r2 : rd [p, q] 0 = p := rfl
  have r3 : rd [p, q] 1 = q := rfl
  have l2 : ((2 : Nat) : Int) = 2 := rfl
  unfold cmp2
  rcases Int.lt_trichotomy a p with h | h | h
  · rw [if_pos h]
    simp [PZeroAlone.slices_Compare_int_int.l0, cmp_f, r0, r2, h]
  · subst h
    rcases Int.lt_trichotomy b q with h | h | h
    · simp [PZeroAlone.slices_Compare_int_int.l0, cmp_f, r0, r1, r2, r3, w1, h]
    · subst h
      simp [PZeroAlone.slices_Compare_int_int.l0, cmp_f, r0, r1, r2, r3, w1, w2]
    · have h' : ¬ b < q := by omega
      simp [PZeroAlone.slices_Compare_int_int.l0, cmp_f, r0, r1, r2, r3, w1, h, h']
  · have h' : ¬ a < p := by omega
    simp [PZeroAlone.slices_Compare_int_int.l0, cmp_f, r0, r2, h, h']
theorem compare_ok (A B : Option Addr) (c d : Nat) (a b p q : Int) (w : World) (hA : Ints w A [a, b]) (hB : Ints w B [p, q]) (hc : 2 ≤ c) (hd : 2 ≤ d) :
    Calls Tryd.prog 33 #[.slice A 2 c, .slice B 2 d] w fun e w' => e = .returned (.int .i64 (cmp2 a b p q)) ∧ Drawn0 w w' :=
  PZeroAlone.slices_Compare_int_int.calls 3 A c [a, b] B d [p, q] _ w hA.toC hc hB.toC hd (compare_f a b p q)
theorem quiet_drawn {f : FuncId} {args : Array Value} {w : World} {n : Nat} {v : Value} (h : Calls Tryd.prog f args (w.drewN n) fun e w' => e = .returned v ∧ Drawn0 (w.drewN n) w') :
    Calls Tryd.prog f args (w.drewN n) fun e w'' => e = .returned v ∧ ∃ m, w'' = w.drewN m :=
  h.mono fun _ _ ⟨he, hm⟩ => by
    obtain ⟨⟨k, rfl⟩⟩ := hm
    exact ⟨he, n + k, by rw [World.drewN_drewN]⟩
/-- two cells read as a pair -/
theorem pair_ints {w : World} {b o : Nat} {x y : Int} (h1 : w.cell? ⟨b, o, none⟩ = some (.int .i64 x)) (h2 : w.cell? ⟨b, o + 1, none⟩ = some (.int .i64 y)) : Ints w (some ⟨b, o, none⟩) [x, y] :=
  ⟨by simp, fun i hi => by
    have hb := World.block_lt_of_cell? w _ h1
    have : i = 0 ∨ i = 1 := by simp at hi; omega
    rcases this with rfl | rfl
    · exact ⟨b, o, rfl, hb, by rw [Nat.add_zero]; exact h1⟩
    · exact ⟨b, o, rfl, hb, h2⟩⟩
theorem ints_drewN {w : World} {A : Option Addr} {l : List Int} (h : Ints w A l) (n : Nat) : Ints (w.drewN n) A l := h.below (below_drewN' (Below.refl _ _) n)
end Go.Proofs.YtehheklbibocjaaDoor

/- The walk of zero.Valid. Condition: the variables read as laid. -/
namespace Go.Proofs.YtehheklbibocjaaDoor
open Go.RowKit Go.Deep Go.Proofs.YtehheklbibocjaaDoorW.PrintWords

theorem ret_gErr {a : Nat → Addr} {r : Int} (h : r = 3) : Ending.returned (.iface 108 (.pointer (some (a 3)))) = .returned (errC a r) := by subst h; rfl

set_option maxHeartbeats 1000000 in
theorem gvalid_big (n : Int) (A : Option Addr) (l : List (Int × Int)) (cap : Nat) (w : World) (a : Nat → Addr) (hE : Env [2, 3] w a) (h : n < 0 ∨ 16 < n) :
    Calls Tryd.prog 20 #[.agg #[.int .i64 n, .slice A l.length cap]] w fun e w' => e = .returned (errC a 2) ∧ Below w.heap.size w w' := by
  have hz : 0 < w.heap.size := hE.lt (c := 2) (by simp)
  have c2 : w.cell? ⟨0, 0, none⟩ = some (.iface 108 (.pointer (some (a 2)))) := hE.cell 2 (by simp)
  rw [errC_two]
  by_cases g0 : n < 0
  · clear h
    go_enter Tryd.func20, Tryd.ntmps20
    go_wp2
    go_ret
    exact ⟨rfl, (Below.refl _ _).alloc (Nat.le_refl _) _⟩
  have g1 : 16 < n := by omega
  clear h
  go_enter Tryd.func20, Tryd.ntmps20
  go_wp2
  go_ret
  exact ⟨rfl, (Below.refl _ _).alloc (Nat.le_refl _) _⟩

set_option maxRecDepth 100000 in
set_option maxHeartbeats 4000000 in
theorem gvalid_any (n : Int) (A : Option Addr) (l : List (Int × Int)) (cap : Nat) (w : World) (a : Nat → Addr) (hE : Env [2, 3] w a) (hP : Pairs w A l) :
    Calls Tryd.prog 20 #[.agg #[.int .i64 n, .slice A l.length cap]] w fun e w' => e = .returned (errC a (gErr n l)) ∧ Below w.heap.size w w' := by
  have hl := hP.len
  by_cases g : n < 0 ∨ 16 < n
  · rw [gErr_big g]; exact gvalid_big n A l cap w a hE g
  have h0 : 0 ≤ n := by omega
  have h1 : n ≤ 16 := by omega
  clear g
  have HEN := hide (fun w' (hb : Below w.heap.size w w') => ((hE.below hb).cell 3 (by decide) : w'.cell? ⟨glob 3, 0, none⟩ = _))
  simp only [glob] at HEN
  have HP := hide hP
  clear hE hP
  go_enter Tryd.func20, Tryd.ntmps20
  go_wp2_with (fail)
  go_loopw [17] (fun i wr => ∃ k : Nat, k ≤ l.length ∧ Hid (GoodE n l k) ∧ i = .int .i64 k ∧ Hid (Below (w.heap.size + 1) (w.alloc (.cells #[.int .i64 n, .slice A l.length cap] 27)) wr)) (fun i _ => l.length - (intOf i).toNat)
  case atStart => exact ⟨0, Nat.zero_le _, hide (GoodE.zero _ _), rfl, hide (Below.refl _ _)⟩
  case round =>
    obtain ⟨k, hk, hg, rfl, hB⟩ := hrel
    obtain ⟨wi, rfl⟩ : ∃ wi : World, wi = wr := ⟨_, rfl⟩
    have hsz : w.heap.size + 1 ≤ wi.heap.size := by have := hB.out.size; simp at this; exact this
    have hbw : Below w.heap.size w wi := (below_alloc' (Below.refl _ _) _).trans (hB.out.mono (Nat.le_succ _))
    have HBW := hide hbw
    have k0 : (0 : Int) ≤ (k : Int) := Int.natCast_nonneg _
    by_cases hlt : k < l.length
    · have hPi := HP.out.below hbw
      obtain ⟨b, off, rfl, hb, c1, c2⟩ := hPi.at_ k hlt
      have HBAD := hide (fun h => gErr_bad (n := n) h0 h1 hlt h)
      have HOWN := hide (fun p q hp hq h => edgeBad_own (n := n) (l := l) (i := k) (p := p) (q := q) hp hq h)
      obtain ⟨p1, e1⟩ : ∃ p, (l.getD k (0,0)).1 = p := ⟨_, rfl⟩
      obtain ⟨p2, e2⟩ : ∃ p, (l.getD k (0,0)).2 = p := ⟨_, rfl⟩
      rw [e1] at c1
      rw [e2] at c2
      have k1 : (k : Int) < (l.length : Int) := by omega
      have y0 : wi.cell? ⟨w.heap.size, 0, none⟩ = some (.int .i64 n) := by
        rw [hB.out.cell (p := ⟨w.heap.size, 0, none⟩) (by show w.heap.size < _; omega)]; simp
      have y1 : wi.cell? ⟨w.heap.size, 1, none⟩ = some (.slice (some ⟨b, off, none⟩) l.length cap) := by
        rw [hB.out.cell (p := ⟨w.heap.size, 1, none⟩) (by show w.heap.size < _; omega)]; simp
      have y3 := HEN.out wi hbw
      have z3 : 1 < wi.heap.size := World.block_lt_of_cell? wi _ y3
      have zw : w.heap.size < wi.heap.size := by omega
      by_cases hbad : p1 < 0 ∨ p2 ≤ p1 ∨ n ≤ p2
      · have HB := hide (HBAD.out (HOWN.out _ _ e1 e2 hbad))
        have HE := hide (And.intro e1 e2)
        clear e1 e2 hPi
        rcases Int.lt_or_le p1 0 with q | q
        · clear hbad
          go_wp2_with (fail)
          go_quiet (fail)
          go_wp2_with (fail)
          go_ret
          exact ⟨ret_gErr HB.out, below_drewN' (below_alloc' HBW.out _) _⟩
        · by_cases q2 : p2 ≤ p1
          · have qb : decide (p1 < 0) = false := decide_eq_false (by omega)
            clear hbad
            go_wp2_with (fail)
            go_quiet (fail)
            go_wp2_with (fail)
            go_ret
            exact ⟨ret_gErr HB.out, below_drewN' (below_alloc' HBW.out _) _⟩
          · have q3 : n ≤ p2 := by omega
            have q4 : p1 < p2 := by omega
            have qb : decide (p1 < 0) = false := decide_eq_false (by omega)
            have qc : decide (p2 ≤ p1) = false := decide_eq_false (by omega)
            clear hbad q2
            go_wp2_with (fail)
            go_quiet (fail)
            go_wp2_with (fail)
            go_ret
            exact ⟨ret_gErr HB.out, below_drewN' (below_alloc' HBW.out _) _⟩
      · have r0 : 0 ≤ p1 := by omega
        have r1 : p1 < p2 := by omega
        have r2 : p2 < n := by omega
        have qb : decide (p1 < 0) = false := decide_eq_false (by omega)
        have qc : decide (p2 ≤ p1) = false := decide_eq_false (by omega)
        have qd : decide (n ≤ p2) = false := decide_eq_false (by omega)
        clear hbad
        cases k with
        | zero =>
          have HF := hide (hg.out.succ (edgeBad_first e1 e2 ⟨r0, r1, r2⟩))
          clear e1 e2 hPi
          rw [Nat.zero_mul, Nat.add_zero] at c1 c2
          go_wp2_with (fail)
          go_quiet (fail)
          go_wp2_with (fail)
          go_roundw
          case rel => exact ⟨1, by omega, hide HF.out, by go_num, hide (below_drewN' (hB.out.alloc hsz _) _)⟩
          case measure => simp [intOf]; omega
        | succ j =>
          obtain ⟨b', off', ee, hb', d1, d2⟩ := hPi.at_ j (by omega)
          injection ee with ee
          injection ee with ee1 ee2 _
          subst ee1 ee2
          obtain ⟨a1, f1⟩ : ∃ p, (l.getD j (0,0)).1 = p := ⟨_, rfl⟩
          obtain ⟨a2, f2⟩ : ∃ p, (l.getD j (0,0)).2 = p := ⟨_, rfl⟩
          rw [f1] at d1
          rw [f2] at d2
          have HX := hide (fun h => HBAD.out (edgeBad_pre e1 e2 f1 f2 h))
          have HN := hide (fun h => hg.out.succ (edgeBad_next e1 e2 f1 f2 ⟨r0, r1, r2⟩ h))
          clear e1 e2 f1 f2 hPi
          have z0 : (0 : Int) < ((j + 1 : Nat) : Int) := by omega
          have HCMP := hide (fun (o : Obj) (h : (wi.alloc o).cell? ⟨wi.heap.size, 0, none⟩ = some (.int .i64 p1)) (h' : (wi.alloc o).cell? ⟨wi.heap.size, 1, none⟩ = some (.int .i64 p2)) nn => compare_ok (some ⟨b, off + j * 2, none⟩) (some ⟨wi.heap.size, 0, none⟩) 2 2 a1 a2 p1 p2 ((wi.alloc o).drewN nn)
            (ints_drewN ((pair_ints d1 d2).below (below_alloc' (Below.refl _ _) _)) _) (ints_drewN (pair_ints h h') _) (Nat.le_refl _) (Nat.le_refl _))
          by_cases q : p1 < a1 ∨ (a1 = p1 ∧ p2 ≤ a2)
          · have hc : 0 ≤ cmp2 a1 a2 p1 p2 := by unfold cmp2; split <;> (try split) <;> (try split) <;> (try split) <;> omega
            have HB := hide (HX.out q)
            generalize cmp2 a1 a2 p1 p2 = cc at HCMP hc
            clear q
            go_wp2_with (fail)
            go_quiet ((go_at_call 33; with_reducible exact quiet_drawn (HCMP.out _ (by simp) (by simp) _)))
            go_wp2_with (fail)
            go_ret
            exact ⟨ret_gErr HB.out, below_drewN' (below_alloc' HBW.out _) _⟩
          · have hc : decide (0 ≤ cmp2 a1 a2 p1 p2) = false := decide_eq_false (by unfold cmp2; split <;> (try split) <;> (try split) <;> (try split) <;> omega)
            have HF := hide (HN.out q)
            generalize cmp2 a1 a2 p1 p2 = cc at HCMP hc
            clear q
            go_wp2_with (fail)
            go_quiet ((go_at_call 33; with_reducible exact quiet_drawn (HCMP.out _ (by simp) (by simp) _)))
            go_wp2_with (fail)
            go_roundw
            case rel => exact ⟨j + 1 + 1, by omega, hide HF.out, by go_num, hide (below_drewN' (hB.out.alloc hsz _) _)⟩
            case measure => simp [intOf]; omega
    · obtain rfl : k = l.length := by omega
      have HF := hide (gErr_good h0 h1 hg.out)
      go_wp2_with (fail)
      go_ret
      rw [HF.out, errC_zero]
      exact ⟨rfl, HBW.out⟩
end Go.Proofs.YtehheklbibocjaaDoor

/- The walk of zero.near. No condition. -/
namespace Go.Proofs.YtehheklbibocjaaDoor
open Go.RowKit Go.Deep Go.Proofs.YtehheklbibocjaaDoorW.PrintWords

theorem uint_info : (Tryd.prog.info? 55).map (fun i => (i.zero, i.size, i.bytes)) = some (some (.int .u64 0), 1, 8) := by kernel_rfl
theorem wp_make_uint (w : World) {ops : Array Oper} {rest : List Oper} {o : Oper} {a : Act} {Q : Exit → Act → World → Prop}
    (hg : o.guard = none) (l c : Operand) (hop : o.op = Op.makeSlice 53 l c) (kl kc : IntKind) (n : Nat) (hl : a.eval l = .int kl (n : Int)) (hc : a.eval c = .int kc (n : Int)) (hn : n ≤ 35184372088832)
    (hK : ∀ w', w'.rowIs w.heap.size 55 n (fun _ => .int .u64 0) → Below w.heap.size w w' → w'.heap.size = w.heap.size + 1 → wpList Tryd.prog ops Q rest (a.put o.dst (.slice (some ⟨w.heap.size, 0, none⟩) n n)) w') :
    wpList Tryd.prog ops Q (o :: rest) a w := by
  obtain ⟨i0, hi0, hz0, hz1, hz2⟩ := info_parts uint_info
  refine wpList_make_row w hg l c _ hop 55 i0 _ Tryd.underlying53 hi0 hz0 hz1 rfl kl kc n hl hc (by rw [hz2]; omega) (by omega) ?_
  exact hK _ (World.rowIs_made w _ n _) ((Below.refl _ _).alloc (Nat.le_refl _) _) (by simp)
theorem natRep (n j : Nat) : (List.replicate n (0 : Nat)).getD j 0 = 0 := by
  rw [List.getD_eq_getElem?_getD, List.getElem?_replicate]
  split <;> rfl
/-- the neighbours of the first k edges -/
def nearTo (n : Nat) (l : List (Int × Int)) (k : Nat) : List Nat := (l.take k).foldl put1 (List.replicate n 0)
theorem nearTo_succ {n : Nat} {l : List (Int × Int)} {k : Nat} (hk : k < l.length) : nearTo n l (k + 1) = put1 (nearTo n l k) (l.getD k (0, 0)) := by
  unfold nearTo
  rw [List.take_add_one, List.foldl_append, getD_eq l k _ hk, List.getElem?_eq_getElem hk]
  rfl
theorem nearTo_length (n : Nat) (l : List (Int × Int)) (k : Nat) : (nearTo n l k).length = n := by unfold nearTo; rw [putAll_length, List.length_replicate]
theorem nearTo_low {n : Nat} {l : List (Int × Int)} (hn : n ≤ 16) (hg : GoodE n l l.length) (k : Nat) (hk : k ≤ l.length) : Low (nearTo n l k) := by
  induction k with
  | zero => exact Low.zero n
  | succ k ih =>
    rw [nearTo_succ hk]
    have h := hg.edge (i := k) hk
    exact (ih (by omega)).put1 (by rw [nearTo_length]; omega) (by rw [nearTo_length]; omega) (by rw [nearTo_length]; omega)
/-- the row that near writes -/
def NRow (w : World) (b n : Nat) (M : List Nat) : Prop := w.rowIs b 55 n (fun j => .int .u64 (M.getD j 0 : Nat))
theorem NRow.put {w : World} {b n : Nat} {M : List Nat} (h : NRow w b n M) (hM : M.length = n) (i x : Nat) (hi : i < n) (v : Value) (hv : v = .int .u64 (M.getD i 0 ||| x : Nat)) : NRow (w.setCell ⟨b, i, none⟩ v) b n (orAt M i x) := by
  subst hv
  refine (World.rowIs.set h i _).congr fun j hj => ?_
  unfold orAt
  rw [natGetD_set _ _ _ _ (by omega)]
  by_cases e : j = i
  · rw [if_pos e, if_pos e.symm]
  · rw [if_neg e, if_neg (Ne.symm e)]
theorem or_u64 {a k : Nat} (ha : a < 2 ^ 16) (hk : k < 16) : bits .or .u64 (a : Int) ((2 ^ k : Nat) : Int) = ((a ||| 2 ^ k : Nat) : Int) :=
  u64_or_nat a (2 ^ k) (Nat.lt_trans ha (by decide)) (Nat.lt_trans (pow_lt16 hk) (by decide))

theorem wrap_pow {k : Nat} (h : k < 16) : IntKind.u64.wrap ((2 : Int) ^ k) = ((2 ^ k : Nat) : Int) := by
  have h1 := pow_lt16 h
  have h2 : (2 : Int) ^ k = ((2 ^ k : Nat) : Int) := by rw [Int.natCast_pow]; rfl
  rw [h2, IntKind.wrap_u64]
  generalize 2 ^ k = x at h1
  omega

set_option maxRecDepth 100000 in
set_option maxHeartbeats 4000000 in
theorem near_ok (n : Nat) (A : Option Addr) (l : List (Int × Int)) (cap : Nat) (w : World) (hP : Pairs w A l) (hn : n ≤ 16) (hg : GoodE n l l.length) :
    Calls Tryd.prog 25 #[.agg #[.int .i64 n, .slice A l.length cap]] w fun e w' => e = .returned (.slice (some ⟨w.heap.size + 1, 0, none⟩) n n) ∧ NRow w' (w.heap.size + 1) n (nearL n l) ∧ Below w.heap.size w w' := by
  have hl := hP.len
  have HP := hide hP
  have HG := hide hg
  have HLOW := hide (nearTo_low hn hg)
  have n0 : (0 : Int) ≤ (n : Int) := Int.natCast_nonneg _
  clear hP hg
  go_enter Tryd.func25, Tryd.ntmps25
  go_wp2_with (first
    | (at_make; refine wp_make_uint _ rfl (.tmp 7) (.tmp 7) rfl .i64 .i64 n rfl rfl (by omega) ?_; intro w2 hrow2 hb2 z2
       have hbw : Below w.heap.size w w2 := below_trans (below_alloc' (Below.refl _ _) _) hb2
       have hz2 : w2.heap.size = w.heap.size + 2 := by rw [z2, World.size_alloc]
       have y1 : w2.cell? ⟨w.heap.size, 1, none⟩ = some (.slice A l.length cap) := by rw [hb2.cell (p := ⟨w.heap.size, 1, none⟩) (by show w.heap.size < _; rw [World.size_alloc]; omega)]; simp
       rw [World.size_alloc] at hrow2
       clear z2 hb2))
  go_loopw [12] (fun i wr => ∃ k : Nat, k ≤ l.length ∧ i = .int .i64 k ∧ NRow wr (w.heap.size + 1) n (nearTo n l k) ∧ Hid (Below w.heap.size w wr) ∧ w.heap.size + 2 ≤ wr.heap.size) (fun i _ => l.length - (intOf i).toNat)
  case atStart => exact ⟨0, Nat.zero_le _, rfl, World.rowIs.congr hrow2 fun j _ => by show _ = Value.int .u64 (((List.replicate n 0).getD j 0 : Nat) : Int); rw [natRep]; rfl, hide hbw, by omega⟩
  case round =>
    obtain ⟨k, hk, rfl, hR, hB, hsz⟩ := hrel
    obtain ⟨wi, rfl⟩ : ∃ wi : World, wi = wr := ⟨_, rfl⟩
    clear hrow2 y1 hz2 hbw
    have k0 : (0 : Int) ≤ (k : Int) := Int.natCast_nonneg _
    by_cases hlt : k < l.length
    · obtain ⟨b, off, rfl, hb, c1, c2⟩ := (HP.out.below hB.out).at_ k hlt
      have hed := HG.out.edge hlt
      have HS := hide (nearTo_succ (n := n) hlt)
      have hlow := HLOW.out k hk
      have hML := nearTo_length n l k
      obtain ⟨M, hM⟩ : ∃ M, nearTo n l k = M := ⟨_, rfl⟩
      rw [hM] at hR hlow hML
      obtain ⟨p1, e1⟩ : ∃ p : Nat, (l.getD k (0,0)).1 = (p : Int) := ⟨(l.getD k (0,0)).1.toNat, by omega⟩
      obtain ⟨p2, e2⟩ : ∃ p : Nat, (l.getD k (0,0)).2 = (p : Int) := ⟨(l.getD k (0,0)).2.toNat, by omega⟩
      rw [e1] at c1
      rw [e2] at c2
      rw [e1, e2] at hed
      have hput : nearTo n l (k + 1) = orAt (orAt M p1 (2 ^ p2)) p2 (2 ^ p1) := by
        rw [HS.out, hM]
        unfold put1
        rw [e1, e2, Int.toNat_natCast, Int.toNat_natCast]
      have HPUT := hide hput
      have HE := hide (And.intro e1 e2)
      have k1 : (k : Int) < (l.length : Int) := by omega
      have q1 : (p1 : Int) < (n : Int) := by omega
      have q2 : (p2 : Int) < (n : Int) := by omega
      have q3 : (0 : Int) ≤ (p1 : Int) := by omega
      have q4 : (0 : Int) ≤ (p2 : Int) := by omega
      have m1 := World.rowIs.cell hR (i := p1) (by omega)
      have m2 := World.rowIs.frozen hR p1
      have hx := hlow p1
      have HLW := hide hlow
      obtain ⟨x1, hx1⟩ : ∃ x, M.getD p1 0 = x := ⟨_, rfl⟩
      rw [hx1] at m1 hx
      have hor := or_u64 hx (k := p2) (by omega)
      have zw : w.heap.size + 1 < wi.heap.size := by omega
      clear hput e1 e2 hed hM hlow
      go_wp2_with (fail)
      go_region
      have hw1 : IntKind.u64.wrap ((2 : Int) ^ p2) = ((2 ^ p2 : Nat) : Int) := wrap_pow (by omega)
      rw [hw1, hor, ← hx1]
      obtain ⟨W1, hW1⟩ : ∃ W, ((wi.setCell ⟨w.heap.size + 1, p1, none⟩ (.int .u64 ((M.getD p1 0 ||| 2 ^ p2 : Nat) : Int))).alloc (.cells #[.int .i64 (p1 : Int), .int .i64 (p2 : Int)] 51)).drew = W := ⟨_, rfl⟩
      have hR1 : NRow W1 (w.heap.size + 1) n (orAt M p1 (2 ^ p2)) := by
        rw [← hW1]
        exact World.rowIs.drew (World.rowIs.alloc (hR.put hML p1 (2 ^ p2) (by omega) _ rfl) _)
      have hB1 : Below w.heap.size w W1 := by
        rw [← hW1]
        exact below_drewN' (((hB.out.setCell (p := ⟨w.heap.size + 1, p1, none⟩) (by show w.heap.size ≤ w.heap.size + 1; omega) _)).alloc (by rw [World.size_setCell]; omega) _) 1
      have s1 : W1.heap.size = wi.heap.size + 1 := by
        rw [← hW1]
        show ((wi.setCell _ _).alloc _).heap.size = _
        rw [World.size_alloc, World.size_setCell]
      have z0 : W1.cell? ⟨wi.heap.size, 0, none⟩ = some (.int .i64 (p1 : Int)) := by
        rw [← hW1]
        generalize hV : wi.setCell ⟨w.heap.size + 1, p1, none⟩ _ = V
        have hVs : V.heap.size = wi.heap.size := by rw [← hV, World.size_setCell]
        rw [← hVs]
        simp
      have z1 : W1.cell? ⟨wi.heap.size, 1, none⟩ = some (.int .i64 (p2 : Int)) := by
        rw [← hW1]
        generalize hV : wi.setCell ⟨w.heap.size + 1, p1, none⟩ _ = V
        have hVs : V.heap.size = wi.heap.size := by rw [← hV, World.size_setCell]
        rw [← hVs]
        simp
      have hlow1 : Low (orAt M p1 (2 ^ p2)) := HLW.out.orAt (by omega) (pow_lt16 (by omega))
      have hML1 : (orAt M p1 (2 ^ p2)).length = n := by rw [orAt_length]; exact hML
      rw [hW1]
      clear hW1 m1 m2 hx hx1 hor hw1 hR HLW
      have m1 := World.rowIs.cell hR1 (i := p2) (by omega)
      have m2 := World.rowIs.frozen hR1 p2
      have hx := hlow1 p2
      obtain ⟨x2, hx2⟩ : ∃ x, (orAt M p1 (2 ^ p2)).getD p2 0 = x := ⟨_, rfl⟩
      rw [hx2] at m1 hx
      have hor := or_u64 hx (k := p1) (by omega)
      go_wp2_with (fail)
      go_region
      have hw1 : IntKind.u64.wrap ((2 : Int) ^ p1) = ((2 ^ p1 : Nat) : Int) := wrap_pow (by omega)
      rw [hw1, hor, ← hx2]
      go_wp2_with (fail)
      go_roundw
      case rel => exact ⟨k + 1, by omega, by go_num, by rw [HPUT.out]; exact World.rowIs.drew (hR1.put hML1 p2 (2 ^ p1) (by omega) _ rfl), hide (below_drewN' (hB1.setCell (p := ⟨w.heap.size + 1, p2, none⟩) (by show w.heap.size ≤ w.heap.size + 1; omega) _) 1), by show _ ≤ (W1.setCell _ _).heap.size; rw [World.size_setCell]; omega⟩
      case measure => simp [intOf]; omega
    · obtain rfl : k = l.length := by omega
      go_wp2_with (fail)
      go_ret
      refine ⟨rfl, ?_, hB.out⟩
      have : nearTo n l l.length = nearL n l := by unfold nearTo nearL; rw [List.take_length]
      rw [← this]
      exact hR
end Go.Proofs.YtehheklbibocjaaDoor

/- Bits of whole numbers of the kind int, as Nat's own. Condition: below 2^62. -/
namespace Go.Proofs.YtehheklbibocjaaDoor
open Go.RowKit

theorem wraps_i64 (n : Int) (h₀ : 0 ≤ n) (h₁ : n < 2 ^ 62) : IntKind.i64.wrap n = n := by rw [IntKind.wrap_i64]; omega
theorem i64_and (a b : Nat) (ha : a < 2 ^ 62) (hb : b < 2 ^ 62) : bits .and .i64 (a : Int) (b : Int) = ((a &&& b : Nat) : Int) := (bits_nat .i64 62 (by decide) wraps_i64 a b ha hb).1
theorem i64_or (a b : Nat) (ha : a < 2 ^ 62) (hb : b < 2 ^ 62) : bits .or .i64 (a : Int) (b : Int) = ((a ||| b : Nat) : Int) := (bits_nat .i64 62 (by decide) wraps_i64 a b ha hb).2
theorem i64_xor (a b : Nat) (ha : a < 2 ^ 62) (hb : b < 2 ^ 62) : bits .xor .i64 (a : Int) (b : Int) = ((a ^^^ b : Nat) : Int) := by
  have hp : 2 ^ 62 ≤ 2 ^ IntKind.i64.bits := by decide
  have ha' : a % 2 ^ IntKind.i64.bits = a := Nat.mod_eq_of_lt (Nat.lt_of_lt_of_le ha hp)
  have hb' : b % 2 ^ IntKind.i64.bits = b := Nat.mod_eq_of_lt (Nat.lt_of_lt_of_le hb hp)
  simp only [bits, BitVec.ofInt_natCast, BitVec.toNat_xor, BitVec.toNat_ofNat, ha', hb']
  exact wraps_i64 _ (Int.natCast_nonneg _) (by exact_mod_cast Nat.xor_lt_two_pow ha hb)
theorem xor_and_one (a b : Nat) : (a ^^^ b) &&& 1 = (a % 2 + b % 2) % 2 := by
  have h1 : (a ^^^ b) &&& 1 = (a ^^^ b) % 2 := by simp
  have h2 : (a ^^^ b) % 2 = (a % 2) ^^^ (b % 2) := by simpa using Nat.xor_mod_two_pow (a := a) (b := b) (n := 1)
  rw [h1, h2]
  rcases Nat.mod_two_eq_zero_or_one a with e | e <;> rcases Nat.mod_two_eq_zero_or_one b with f | f <;> rw [e, f] <;> rfl
end Go.Proofs.YtehheklbibocjaaDoor
